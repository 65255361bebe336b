/- TopCrash, part E: functions of the log, of space and of the archive. -/
import Derived.Test.YtkmlafmjaeeanaaGreatDoorMrkD
set_option linter.all false
set_option maxHeartbeats 2000000
set_option maxRecDepth 20000
open Go Go.RowKit Go.Proofs.Tryz
open _root_ renaming rfl→Z,Nat→Y,Int→H,List→Ae,if_neg→Ag,if_pos→Ai,Array→Ap,Bool→Ar,congrArg→Av,Option→Aw,trivial→AB,UInt8→AH,absurd→AI,String→AJ,decide_eq_true→AL,decide_eq_false→AN,of_decide_eq_true→AO,dif_pos→AQ,of_decide_eq_false→AR
open _root_.And renaming intro→If
open _root_.Array renaming replicate→JX
open _root_.Bool renaming true→Af,false→Aj
open _root_.Go renaming World→Ad,Value→Ah,TypeId→Ay,Addr→AC,Program→AD,Act→AE,Operand→AF,Oper→AG,IntKind→AK,Code→AM,Exit→AP
open _root_.List renaming range→BF,replicate→BJ,length→DZ,zipWith→HK,toArray→Li,length→Ajb
open _root_.Nat renaming blt→BL,beq→Jw,strongRecOn→RX,not_lt_zero→WU,reducePow→WV
open _root_.Option renaming some→RZ,some→J,none→Aa
open _root_.Prod renaming snd→Sb
open _root_.UInt8 renaming ofNat→BU
namespace Go.Proofs.YtkmlafmjaeeanaaGreatDoor
section
attribute [local irreducible] OW KW QW EX GW NV
open Pth Rec Srt Cat
def Rp(l:Ae Xt)(cap:H):Jg l cap=0↔OkX l cap:=by
 unfold Jg;simp
def eM{C:H}:∀{l:Ae Xt} {a:H},30<=a->a<=C->RowX a C l->30<=Lv a l/\Lv a l<=C
 |[],a,h1,h2,h=>⟨h1,h2⟩
 |x::l,a,h1,h2,h=>by
  have h3:=h.low x (HI ..);have h4:=h.high x (HI ..);have h5:=h.one x (HI ..);exact eM (l:=l) X h4 h.tail
def RowX.take{a C:H}{l:Ae Xt}(h:RowX a C l)(i:Y):RowX a C (l.take i):=
 ⟨fun x hx=>h.low x (Kl hx),fun x hx=>h.high x (Kl hx),fun x hx=>h.one x (Kl hx),h.chain.sublist (List.take_sublist _ _)⟩
def Acu(l:Ae Xt)(hl:Ajb l<=1000000)(cap:H)(A:Aw AC)(c B:Y)(w:Ad)(hs:Sl w B A (Eg l)):
 Bn prog 89 [.slice A (Ajb l) c,U cap] w fun v w'=>(∃(u:Ah) (e:Y),v=.tuple #[u,U (e:H)]/\(¬OkX l cap/\e=220∨OkX l cap/\e=0/\∃l':Ae Xt,l'.Perm l/\RowX 30 (max cap 30) l'/\Bo w' w.heap.size 121 2 u (Ajb (FJ 30 (l'++[(max cap 30,0)]))) (Eg (FJ 30 (l'++[(max cap 30,0)])))))/\Bf w w':=by
 have al:Jg l cap=0∨Jg l cap=220:=by unfold Jg;split<;>simp
 refine Bw func89 Z ntmps89 Be Z ?_;refine(O 10∘Zc (Th l hl cap A c B w hs)) ?_;rintro _ w1⟨rfl,D⟩;refine(O 7)<|Zi (fun hc=>?_) fun hc=>?_
 .have ho:¬OkX l cap:=fun q=>hc (by rw[(Rp l cap).2 q]);rw[al.resolve_left (fun q=>hc (by rw[q]))];refine(O 6∘BG) ?_;grind
 .have ho:OkX l cap:=(Rp l cap).1 X;have bb:=ho.room;refine(O 13∘Zc (ng l hl A c B w1 (hs.ext D))) ?_;rintro v2 w2⟨⟨l',d,E,W⟩,T⟩;refine(O 1) ?_;refine OW.val Z Z (by first|exact EX.maxN (b:=30) Z Z|exact cJ Z Z)<|(O 1) ?_;have t:=d.length_eq;have a:=Aba ((SP d).2 ho) E;have I:Bo w2 w1.heap.size 121 2 v2 (Ajb l') (Eg l'):=by rw[t];exact W
  rw[<-t]at hl;obtain⟨L,hL⟩:∃L,L=l'++[(max cap 30,(0:H))]:=⟨_,Z⟩;have a9:Ajb L=Ajb l'+1:=by rw[hL,BA];rfl
  refine(Kx T I) ?_;rintro _ v3 N S C bi;have y:Bo N w1.heap.size 121 2 v3 (Ajb L) (Eg L):=by(rw[a9,hL,PJ];exact S)
  obtain⟨A3,c3,rfl,_,a1⟩:=y.slice;refine(O 4) ?_;have bh:=UO L 30;have a8:∀i,i<=Ajb l'->L.take i=l'.take i:=fun i hi=>by grind
  have a7:∀i (h:i<Ajb L),L[i].1<=max cap 30/\30<=L[i].1/\0<=L[i].2/\L[i].1+L[i].2<=max cap 30:=fun i h=>by
   by_cases q:i<Ajb l'
   .have e:L[i]=l'[i]:=by simp only[hL];exact WF q
    have m:=BM q;have h1:=a.low _ m;have h2:=a.high _ m;have h3:=a.one _ m;simp_all;omega
   .simp_all;omega
  have ai:∀i,i<=Ajb L->30<=Lv 30 (L.take i)/\Lv 30 (L.take i)<=max cap 30:=fun i hi=>by
   by_cases q:i<=Ajb l'
   .rw[a8 i q];exact eM (Int.le_refl _) X (a.take i)
   .obtain rfl:i=Ajb l'+1:=X;rw[Dq X,hL,Yb];omega
  refine Lo (fun((i,at_,P,wr):Y×H×Ah×Ad)=>(i<=Ajb L/\at_=Lv 30 (L.take i)/\Bo wr N.heap.size 121 2 P (Ajb (FJ 30 (L.take i))) (Eg (FJ 30 (L.take i)))/\Bf N wr,[(7,P),(8,U (at_:H)),(23,.slice A3 (Ajb L) c3),(24,U ((Ajb L:Y):H)),(25,U i)],wr,Ajb L-i)) (0,30,(.slice Aa 0 0),N) ?_ ?_
  .exact⟨BE _,Z,Bo.nil _ _ _ _,Bf.refl _⟩
  .rintro⟨i,at_,P,wr⟩⟨hi,aj,g,V⟩;have a5:=ai i hi;rw[<-aj]at a5;refine(O 5)<|Zi (fun j=>?_) fun j=>?_
   .obtain⟨b,o,rfl,_,n⟩:=(a1.ext V).flat (l:=L) (i:=i) (c:=2) (fun _=>rfl) Bc j;have G:L.take (i+1)=L.take i++[L[i]]:=(CS j).symm;have f:=ja L[i] (L.take i) 30;have af:=Yb L[i] (L.take i) 30;rw[<-G,<-aj]at f;rw[<-G]at af;have a0:=a7 i j;generalize L[i]=x at n G f af a0;have ab:=UO (L.take i) 30;rw[BZ]at ab;refine(O 6∘Zv (Dr (xcells x) n)∘Zn) ?_;rintro xb w4 ba a6 r;refine(Zs a6 (hlt:=Bv _)) ?_;rintro w5 p a2;refine(O 5) ?_;replace p:Bk w5 xb 121 (xcells x):=p;have x5:Bf wr w5:=Bu r a2 r.size (fun k hk=>by grind);refine(O 4) ?_;have z1:=T.size;have z3:=C.size;have z:=V.size;refine Lc (fun((vq,K):Ah×Ad)=>(Bo K N.heap.size 121 2 vq (Ajb (FJ 30 (L.take (i+1)))) (Eg (FJ 30 (L.take (i+1))))/\Bf N K/\Bk K xb 121 (xcells x),[(7,vq),(10,.pointer (J ⟨xb,0,Aa⟩)),(23,.slice (J ⟨b,o,Aa⟩) (Ajb L) c3),(24,U ((Ajb L:Y):H)),(25,U i)],K)) ?_ ?_
    .refine Zi (fun a3=>?_) fun a3=>?_
     .rw[Ai (show at_<x.1 by omega)]at f;refine(O 8∘Kx (V.trans x5) (g.ext x5)) ?_;rintro _ v6 w6 Q ao a4;refine(O 2∘Lm (v6,w6)) ?_;refine⟨?_,ao,p.grown a4 fun e=>by have:=(g.lt _ e.symm).2;omega⟩;rw[f,BA,PJ];exact Q
     .rw[Ag (show ¬at_<x.1 by omega),List.append_nil]at f;refine(O 1∘Lm (P,w5)) ?_;rw[f];exact⟨g.ext x5,V.trans x5,p⟩
    .rintro⟨vq,K⟩⟨bf,bc,bj⟩;refine(O 13)<|Lb ((i+1),(x.1+x.2),vq,K) ?_;grind
   .obtain rfl:i=Ajb L:=X;rw[Dq (Bv _)]at g;refine(O 7∘BG) ?_;refine⟨⟨P,0,Z,.inr ⟨ho,Z,l',d,a,by rw[<-hL];exact Bo.more g (by have:=D.size;have:=C.size;omega)⟩⟩,D.trans (C.trans V)⟩
def Acs(l:Ae Xt)(hl:Ajb l<=1000000)(cap a:H)(A:Aw AC)(c B:Y)(w:Ad)(hs:Sl w B A (Eg l)):
 Bn prog 59 [.slice A (Ajb l) c,U cap,U a] w fun v w'=>(∃(s:H) (e:Y),v=.tuple #[U s,U (e:H)]/\(e=0/\OkX l cap/\1<=a/\IJ l cap a s∨e=(if a<1 then 2 else 220)/\s=0/\(1<=a->OkX l cap->∀s',¬Js 30 (max cap 30) a l s')))/\Bf w w':=by
 refine Bw func59 Z ntmps59 (by rfl) Z ?_;refine(O 11)<|Zi (fun h1=>?_) fun h1=>?_
 .refine(O 5∘BG) ?_;exact⟨⟨0,2,Z,.inr ⟨(Ai h1).symm,Z,fun h=>by omega⟩⟩,Bf.refl _⟩
 .refine(O 5∘Zc (Acu l hl cap A c B w hs)) ?_;rintro _ Q⟨⟨u,e,rfl,ab⟩,E⟩;refine(O 12)<|Zi (fun hc=>?_) fun hc=>?_
  .obtain⟨p,he⟩:¬OkX l cap/\e=220:=by
    grind
   refine(O 6∘BG) ?_;grind
  .obtain⟨ho,m,d,I,own⟩:OkX l cap/\∃m:Ae Xt,m.Perm l/\RowX 30 (max cap 30) m/\Bo Q w.heap.size 121 2 u (Ajb (FJ 30 (m++[(max cap 30,0)]))) (Eg (FJ 30 (m++[(max cap 30,0)]))):=by
    grind
   have K:=gG (C:=max cap 30) (n:=a) X m 30 X I
   have ai:Ajb (FJ 30 (m++[(max cap 30,0)]))<=1000001:=by
    have:=UO (m++[(max cap 30,0)]) 30;rw[BA,d.length_eq,Dd]at this;omega
   generalize FJ 30 (m++[(max cap 30,0)])=G at own K ai;obtain⟨A1,c1,rfl,_,T⟩:=own.slice;obtain⟨f1,f2⟩:=K;refine(O 9)<|Lo (fun((i,wr):Y×Ad)=>(i<=Ajb G/\(∀y∈G.take i,¬a<=y.2)/\Bf Q wr,[(2,U a),(23,.slice A1 (Ajb G) c1),(24,U ((Ajb G:Y):H)),(25,U i)],wr,Ajb G-i)) (0,Q) ?_ ?_
   .exact⟨BE _,(fun y D=>by grind),Bf.refl _⟩
   .rintro⟨i,wr⟩⟨hi,p,N⟩;refine(O 5)<|Zi (fun f=>?_) fun f=>?_
    .obtain⟨b,o,rfl,_,j⟩:=(T.ext N).flat (l:=G) (i:=i) (c:=2) (fun _=>rfl) Bc f;have S:G.take (i+1)=G.take i++[G[i]]:=(CS f).symm;have r:G=G.take i++G[i]::G.drop (i+1):=by rw[<-DE f,HJ]
     generalize G[i]=x at j S r;refine(O 6∘Zv (Dr (xcells x) j)∘Zn) ?_;rintro xb w4 aj af q;refine(Zs af (hlt:=Bv _)) ?_;rintro P L V;refine(O 4) ?_;replace L:Bk P xb 121 (xcells x):=L;have x5:Bf wr P:=Bu q V q.size (fun k hk=>by grind);refine(O 4)<|Zi (fun hn=>?_) fun hn=>?_
     .have W:G.find? (fun g=>decide (a<=g.2))=J x:=by
       rw[r,List.find?_append,List.find?_eq_none.2 (fun y D=>by simpa using p y D),List.find?_cons_of_pos (by simpa using hn)];rfl
      obtain⟨g1,g2⟩:=f1 x W;refine(O 7∘BG) ?_;exact⟨⟨x.1,0,Z,.inl ⟨Z,ho,X,(Js.perm d).1 g1,fun s' t=>g2 s' ((Js.perm d).2 t)⟩⟩,(E.trans N).trans x5⟩
     .refine(O 6)<|Lb ((i+1),P) ?_;refine⟨f,fun y D=>?_,N.trans x5⟩;grind
    .refine(O 6∘BG) ?_;obtain rfl:i=Ajb G:=X;rw[Dq (Bv _)]at p;have W:G.find? (fun g=>decide (a<=g.2))=Aa:=List.find?_eq_none.2 fun y D=>by simpa using p y D
     exact⟨⟨0,220,Z,.inr ⟨(Ag h1).symm,Z,fun _ _ s' t=>f2 W s' ((Js.perm d).2 t)⟩⟩,E.trans N⟩
def Acr(l:Ae Xt)(hl:Ajb l<=1000000)(A:Aw AC)(c B:Y)(w:Ad)(E:Sl w B A (Eg l)):
 Bn prog 69 [.slice A (Ajb l) c] w fun v w'=>v=U (if OkX l 4096 then JK l else 30)/\Bf w w':=by
 refine Bw func69 Z ntmps69 (by rfl) Z ?_;refine(O 12∘Zc (Th l hl 4096 A c B w E)) ?_;rintro _ D⟨rfl,g⟩;refine(O 2)<|Zi (fun K=>?_) fun K=>?_
 .have p:¬OkX l 4096:=fun q=>K (by rw[(Rp l 4096).2 q]);refine(O 5∘Br) ?_;grind
 .have p:OkX l 4096:=(Rp l 4096).1 X;rw[Ai p];have Q:∀i,30<=JK (l.take i)/\JK (l.take i)<=4096:=fun i=>⟨(Yf _).1,gu Bc fun x h=>by have:=p.fit x (Kl h);unfold HS at this;omega⟩;have P:=KE (cells:=xcells) (k:=2) (fun _=>rfl) l;refine(O 9)<|Lo (fun((i,z,wr):Y×H×Ad)=>(i<=Ajb l/\z=JK (l.take i)/\Bf D wr,[(3,U (z:H)),(10,.slice A (Ajb l) c),(11,U ((Ajb l:Y):H)),(12,U i)],wr,Ajb l-i)) (0,30,D) ?_ ?_
  .exact⟨BE _,Z,Bf.refl _⟩
  .rintro⟨i,z,wr⟩⟨V,n,h⟩;have y:=Q i;rw[<-n]at y;refine(O 5)<|Zi (fun a=>?_) fun a=>?_
   .obtain⟨b,o,rfl,_,d⟩:=((E.ext g).ext h).flat (l:=l) (i:=i) (c:=2) (fun _=>rfl) Bc a;have j:l.take (i+1)=l.take i++[l[i]]:=(CS a).symm;have I:=p.fit _ (BM a);have f:=tP (l.take i) l[i];rw[<-j,<-n]at f;generalize l[i]=x at d j I f;unfold HS at I;refine(O 6∘Zv (Dr (xcells x) d)∘Zn) ?_;rintro L S G C e;refine(Zs C (hlt:=Bv _)) ?_;rintro r m t;refine(O 4) ?_;replace m:Bk r L 121 (xcells x):=m;have N:Bf wr r:=Bu e t e.size (fun k T=>by grind);refine(O 4) ?_;refine OW.val Z Z (by first|exact EX.maxN Z Z|exact cJ Z Z)<|(O 7)<|Lb ((i+1),(max z (x.1+x.2)),r) ?_;exact⟨a,f.symm,h.trans N⟩
   .obtain rfl:i=Ajb l:=X;rw[Dq (Bv _)]at n;refine(O 6∘Br) ?_;rw[n];exact⟨Z,g.trans h⟩
noncomputable def Ez(l:Ae Xt)(cap n:H):H×Y:=open Classical in
 if h:1<=n/\OkX l cap/\∃s,IJ l cap n s then(h.2.2.choose,0)else(0,if n<1 then 2 else 220)
def Yx{l:Ae Xt}{cap n:H}(h:(Ez l cap n).2=0):1<=n/\OkX l cap/\IJ l cap n (Ez l cap n).1:=by
 unfold Ez at h ⊢;split at h
 .grind
 .grind
def gI{l:Ae Xt}{cap n s t:H}(h1:IJ l cap n s)(d:IJ l cap n t):s=t:=by
 have a:=h1.2 t d.1;have b:=d.2 s h1.1;omega
def gH(l:Ae Xt)(hl:Ajb l<=1000000)(cap d:H)(A:Aw AC)(c B:Y)(w:Ad)(f:Sl w B A (Eg l)):
 Bn prog 59 [.slice A (Ajb l) c,U cap,U d] w fun v w'=>v=.tuple #[U (Ez l cap d).1,U (((Ez l cap d).2:Y):H)]/\Bf w w':=by
 refine(Acs l hl cap d A c B w f).mono fun v w'⟨⟨s,e,j,n⟩,i⟩=>⟨?_,i⟩;rcases n with⟨rfl,k,m,h⟩|⟨o,rfl,g⟩
 .have q:1<=d/\OkX l cap/\∃s,IJ l cap d s:=⟨m,k,s,h⟩;have e:Ez l cap d=(q.2.2.choose,0):=AQ q;rw[e,j,gI h q.2.2.choose_spec]
 .have q:¬(1<=d/\OkX l cap/\∃s,IJ l cap d s):=fun⟨a,b,s,f⟩=>g a b s f.1;have p:Ez l cap d=(0,if d<1 then 2 else 220):=dif_neg q;grind
end
namespace Cat
open Pth Rec Srt
def IA(s:Bh)(i:Y):Bh:=(s.drop (486*i)).take 486
def ac(s:Bh)(i:Y):Ajb (IA s i)<=486:=by unfold IA;grind
def Jf(gen:H)(s:Bh)(i:Y):Bh:=text 4 gen.toNat i (IA s i)
def EJ(gen:H)(s:Bh):Cn:=(BF 5).map (Jf gen s)
def IC(gen:H)(s:Bh):Ajb (EJ gen s)=5:=by rfl
def aI(gen:H)(s:Bh){i:Y}(h:i<5):(EJ gen s)[i]? =J (Jf gen s i):=by simp[EJ,h]
structure OkE(gen:H)(l:Ae M):Prop where
 low:0<=gen
 high:gen<=4611686018427387904
 chk:OkC l 4096
noncomputable def Es(gen:H)(l:Ae M):Cn×Y:=open Classical in if OkE gen l then(EJ gen (Cf l),0)else([],230)
def Sw{gen:H}{l:Ae M}(h:OkE gen l):Es gen l=(EJ gen (Cf l),0):=by unfold Es;grind
def XZ{gen:H}{l:Ae M}(h:¬OkE gen l):Es gen l=([],230):=by unfold Es;grind
def UG(gen:H)(l:Ae M):(OkE gen l/\Es gen l=(EJ gen (Cf l),0))∨Es gen l=([],230):=by
 rcases NZ (OkE gen l)with h|h
 .exact .inl ⟨h,Sw h⟩
 .exact .inr (XZ h)
def kX{gen:H}{l:Ae M}(h:OkE gen l):Ajb (Cf l)<=2096:=by
 have a:=Xh l h.chk.may;have:=h.chk.len;omega
def gj{gen:H}(h0:0<=gen)(h1:gen<=4611686018427387904)(s:Bh){i:Y}(hi:i<5):ER 4 gen i (IA s i)=(Jf gen s i,0):=by
 have a:¬bad 4 gen i (IA s i):=by
  unfold bad;have:=ac s i;omega
 unfold ER;rw[Ag a];rfl
def XS{gen:H}(h0:0<=gen)(h1:gen<=4611686018427387904)(s:Bh){i:Y}(hi:i<5):Ct (Jf gen s i)=(⟨4,gen,i,IA s i⟩,0):=Ns Bi (gj h0 h1 s hi)
def Er(ss:Cn):Bh:=ss.flatMap fun s=>(Ct s).1.data
def sO(ss:Cn)(s:Bh):Er (ss++[s])=Er ss++(Ct s).1.data:=by simp[Er]
def Ed(ss:Cn):H:=(Ct (ss.getD 0 [])).1.gen
def Gt(ss:Cn):Ae M×Y:=ED (Ajb (Er ss)+1) (Er ss) []
structure OkD(ss:Cn):Prop where
 mem:(Gt ss).2=0
 enc:Es (Ed ss) (Gt ss).1=(ss,0)
noncomputable def CB(ss:Cn):H×Ae M×Y:=open Classical in if OkD ss then(Ed ss,(Gt ss).1,0)else(0,[],230)
def Qz{ss:Cn}(h:OkD ss):CB ss=(Ed ss,(Gt ss).1,0):=by unfold CB;grind
def Su{ss:Cn}(h:¬OkD ss):CB ss=(0,[],230):=by unfold CB;grind
def Sx{gen:H}{l:Ae M}{ss:Cn}(h:Es gen l=(ss,0)):OkE gen l/\ss=EJ gen (Cf l):=by
 rcases UG gen l with⟨d,a⟩|a
 .grind
 .grind
def UH{gen:H}{l:Ae M}{ss:Cn}(h:Es gen l=(ss,0)){i:Y}(hi:i<Ajb ss):Ajb ss=5/\Ct ss[i]=(⟨4,gen,i,IA (Cf l) i⟩,0):=by
 obtain⟨d,rfl⟩:=Sx h;have a:=aI gen (Cf l) hi
 have e:=by
  rw[BR (by rwa[IC])]at a;injection a
 exact⟨IC _ _,e▸XS d.low d.high _ hi⟩
def enc_len{gen:H}{l:Ae M}{ss:Cn}(h:Es gen l=(ss,0)):Ajb ss=5:=by
 obtain⟨_,rfl⟩:=Sx h;rfl
def tN{gen:H}{l:Ae M}{ss:Cn}(h:Es gen l=(ss,0)):Ed ss=gen:=by
 have d:=enc_len h;have a:0<Ajb ss:=X;have:=(UH h a).2;unfold Ed;grind
def lB(s:Bh):∀n,(BF n).flatMap (IA s)=s.take (486*n)
 |0=>by simp
 |n+1=>by
  rw[Ga,IL,lB];unfold IA;grind
def sN{gen:H}{l:Ae M}{ss:Cn}(h:Es gen l=(ss,0)):Er ss=Cf l:=by
 obtain⟨a,rfl⟩:=Sx h;have d:=kX a
 have e:Er (EJ gen (Cf l))=(BF 5).flatMap (IA (Cf l)):=by
  unfold Er EJ;rw[List.flatMap_map];rw[IM,IM];congr 1;apply Kj;intro i f;rw[XS a.low a.high _ Bg]
 rw[e,lB,Dq X]
def sQ{gen:H}{l:Ae M}{ss:Cn}(d:∀m∈l,m.sum<=4294967295)(h:Es gen l=(ss,0)):CB ss=(gen,l,0):=by
 have g:=(Sx h).1
 have a:Gt ss=(l,0):=by
  unfold Gt;rw[sN h];have:=Zm l (Ajb (Cf l)+1) [] (fun m a=>⟨g.chk.may m a,d m a⟩) X;simpa using this
 have e:=tN h;have f:OkD ss:=⟨Bg,Bg⟩;rw[Qz f,a,e]
def ZN{ss:Cn}(h:OkD ss){i:Y}(hi:i<Ajb ss):Ajb ss=5/\(Ct ss[i]).2=0/\(Ct ss[i]).1.kind=4/\(Ct ss[i]).1.gen=Ed ss/\(Ct ss[i]).1.index=i:=by
 obtain⟨d,a⟩:=UH h.enc hi;grind
def yy{ss:Cn}(h:OkD ss):Ajb ss=5:=enc_len h.enc
end Cat
section
attribute [local irreducible] OW KW QW EX GW NV
open Pth Rec Srt Cat
def xD(m:M):Et m≠[]:=fun e=>by
 have:=Av DZ e;rw[UY]at this;grind
def tL{gen:H}{l:Ae M}(h:gen<0∨4611686018427387904<gen∨Kz l 4096≠0):Es gen l=([],230):=XZ fun q=>by
 have h1:=q.low;have h2:=q.high;have h3:=Si q.chk;omega
def yz{gen:H}{l:Ae M}(h1:¬gen<0)(d:¬4611686018427387904<gen)(a:Kz l 4096=0):OkE gen l:=by
 refine⟨X,X,IG fun q=>?_⟩;rw[OG q]at a;omega
def My(gen:H)(s:Bh)(i:Y):Bm:=(BF 5).map fun j=>if j<i then Bl (Jf gen s j)else Bl []
def ZT(gen:H)(s:Bh)(i:Y):Ajb (My gen s i)=5:=by rfl
def yM(gen:H)(s:Bh){i:Y}(hi:i<5):(My gen s i).set i (Bl (Jf gen s i))=My gen s (i+1):=by
 apply GZ;intro j;rw[WE,ZT];by_cases a:j<5
 .by_cases e:i=j
  .subst e;rw[Ai Z,Ai hi];simp[My,hi]
  .rw[Ag e];simp only[My,Eh,MY a,FP];grind
 .rw[IN (by rw[ZT];omega)];by_cases e:i=j
  .omega
  .rw[Ag e,IN (by rw[ZT];omega)]
def yL(gen:H)(s:Bh):My gen s 5=De (EJ gen s):=by
 rfl
def gm(gen:H)(l:Ae M)(Q:∀m∈l,m.Ok)(hl:Ajb l<=140737488355328)(A:Aw AC)(c B:Y)(w:Ad)(hG:Dy w)(hs:Sl w B A (DK l)):
 Bn prog 82 [U gen,.slice A (Ajb l) c] w fun v w'=>(∃u,v=.tuple #[u,U (((Es gen l).2:Y):H)]/\Bo w' w.heap.size 9 1 u (Ajb (Es gen l).1) (De (Es gen l).1))/\Bf w w':=by
 have bad:(gen<0∨4611686018427387904<gen∨Kz l 4096≠0)->∀w',Bf w w'->(∃u,(Value.tuple #[.slice Aa 0 0,U 230])=.tuple #[u,U (((Es gen l).2:Y):H)]/\Bo w' w.heap.size 9 1 u (Ajb (Es gen l).1) (De (Es gen l).1))/\Bf w w':=fun h w' g=>by
  rw[tL h];exact⟨⟨_,Z,Bo.nil _ _ _ _⟩,g⟩
 refine Bw func82 Z ntmps82 (by rfl) Z ?_;refine(O 11)<|Zd 17 (fun h1=>?_) fun h1=>?_
 .refine(O 15∘BG) ?_;exact bad (.inl h1) w (Bf.refl _)
 .refine(O 4)<|Zd 21 (fun h2=>?_) fun h2=>?_
  .refine(O 11∘BG) ?_;exact bad (.inr (.inl h2)) w (Bf.refl _)
  .refine(O 1∘Zc (Uw l Q hl 4096 A c B w hG hs)) ?_;rintro _ w1⟨rfl,L⟩;refine(O 3)<|Zi (fun h3=>?_) fun h3=>?_
   .refine(O 5∘BG) ?_;grind
   .have E:OkE gen l:=yz h1 h2 (Decidable.byContradiction fun q=>h3 X);have ai:=kX E;have x:=E.chk.may;have bc:=E.chk.len
    have j:∀i,Ajb (Cf (l.take i))<=2096:=fun i=>by
     have h4:=Xh (l.take i) (fun m hm=>x m (Kl hm));grind
    rw[Sw E];refine(O 3∘Zn) ?_;rintro G w2 a9 a6 al;refine(O 8) ?_;have af:=Bd.new (B:=w.heap.size) (by have:=L.size;omega) a6;have x2:=L.trans al;refine Lc (fun(wr:Ad)=>(Bd wr w.heap.size G (Cf l)/\Bf w wr,[(0,U gen),(6,.pointer (J ⟨G,0,Aa⟩))],wr)) ?_ ?_
    .refine(O 1)<|Lo (fun((i,wr):Y×Ad)=>(i<=Ajb l/\Bd wr w.heap.size G (Cf (l.take i))/\Bf w wr,[(0,U gen),(6,.pointer (J ⟨G,0,Aa⟩)),(26,.slice A (Ajb l) c),(27,U ((Ajb l:Y):H)),(28,U i)],wr,Ajb l-i)) (0,w2) ?_ ?_
     .exact⟨BE _,af,x2⟩
     .rintro⟨i,wr⟩⟨hi,p,g⟩;have ba:=j i;have ao:=j (i+1);refine(O 5)<|Zi (fun a=>?_) fun a=>?_
      .obtain⟨b,o,rfl,_,n⟩:=(hs.ext g).flat (i:=i) (c:=5) (fun _=>rfl) Bc a;have N:l.take (i+1)=l.take i++[l[i]]:=(CS a).symm;have S:=Q l[i] (BM a);have a1:=x l[i] (BM a);generalize l[i]=m at n N S a1;have V:Cf (l.take (i+1))=Cf (l.take i)++Et m:=by rw[N,qN]
       rw[V,BA]at ao;refine(O 6∘Zv (Dr m.cells n)∘Zn) ?_;rintro mb w3 a8 a5 K;refine(Zs a5 (hlt:=Bv _)) ?_;rintro D f a3;refine(O 3) ?_;replace f:Bk D mb 60 m.cells:=f;have x4:Bf wr D:=Bu K a3 K.size (fun k hk=>by simp at hk;omega);have cm:=ky m S D;rw[show NB m=(Et m,0) by unfold NB;grind]at cm;simp only at cm;refine(Zv (BW f)∘Zc cm) ?_;rintro _ w5⟨rfl,d⟩;refine(O 8) ?_;have x5:=(g.trans x4).trans d;refine(Zc (oR w.heap.size G (Cf (l.take i)) (Et m) w5 ((p.ext x4).ext d) (xD m) X x5.size)) ?_;rintro _ w6⟨⟨q,rfl⟩,y,W⟩;refine(O 6) ?_;rw[<-V]at y;refine Lb ((i+1),w6) ?_;exact⟨X,y,Below.trans x5 W⟩
      .obtain rfl:i=Ajb l:=X;rw[DV]at p;refine(O 1∘Lm wr) ?_;grind
    .rintro wr⟨p,g⟩;refine(O 2∘Zc (Xo w.heap.size G (Cf l) wr p X g.size)) ?_;rintro _ w3⟨rfl,ab⟩;refine(O 4) ?_;have x3:Bf w w3:=Below.trans g ab;generalize Cf l=s at ai;refine dC (len:=5) Z Z underlying97 Gz Z Z Z X X ?_;rintro I D a7 f aj;refine(O 8) ?_;have x4:=x3.trans aj;replace f:Bk D I 9 (My gen s 0):=f;have a0:w.heap.size<=I:=by have:=x3.size;omega
     refine Lo (fun((i,wr):Y×Ad)=>(i<=5/\Bk wr I 9 (My gen s i)/\Bf w wr,[(0,U gen),(11,Bl ((s.drop (486*i)))),(12,.slice (J ⟨I,0,Aa⟩) 5 5),(42,U i)],wr,5-i)) (0,D) ?_ ?_
     .grind
     .rintro⟨i,wr⟩⟨hi,C,g⟩;refine(O 5)<|Zi (fun a=>?_) fun a=>?_
      .have ce:=fun w=>UJ 4 Bc gen i (IA s i) (by have:=ac s i;omega) w;rw[gj E.low E.high s a]at ce;simp only at ce;have a4:Ajb (s.drop (486*i))=Ajb s-486*i:=CM
       have P:(s.drop (486*i)).take (min (Ajb (s.drop (486*i))) 486)=IA s i:=by
        unfold IA;rcases Ua (Ajb (s.drop (486*i))) 486 with q|q
        .grind
        .grind
       have T:(s.drop (486*i)).drop (min (Ajb (s.drop (486*i))) 486)=s.drop (486*(i+1)):=by
        rcases Ua (Ajb (s.drop (486*i))) 486 with q|q
        .simp;omega
        .simp;omega
       generalize hq:s.drop (486*i)=t at a4 P T;refine(O 23∘Zv (by exact Kb underlying9 Z Z X)) ?_;refine OW.as 55 (Bl ((IA s i))) Z (Av Bl P)<|(Zc (ce wr)) ?_;rintro _ w5⟨rfl,d⟩;refine(O 4∘Zt (C.ext d) (hlt:=by assumption)) ?_;rintro w6 r a2;refine(O 4∘Zv (by exact MW underlying9 Z Z X)∘O 7) ?_;replace r:Bk w6 I 9 ((My gen s i).set i (Bl (Jf gen s i))):=r;rw[yM gen s a]at r;refine(Cs 11 (Bl ((s.drop (486*(i+1))))) (e:=by exact Av Bl T))<|Lb ((i+1),w6) ?_;exact⟨X,r,Bu (g.trans d) a2 (g.trans d).size (fun k hk=>by simp at hk;omega)⟩
      .obtain rfl:i=5:=X;rw[yL]at C;refine(O 7∘BG) ?_;refine⟨⟨_,Z,?_⟩,g⟩;rw[IC];exact Bo.Agl (cap:=5) C a0 (by rfl) Bc
def xx(s:Bh):(IW s).sum<=4294967295:=Vc _ 4 (Bv _)
def kn:∀(f:Y) (s:Bh) (out:Ae M),(∀m∈out,Ds m/\m.sum<=4294967295)->∀m∈(ED f s out).1,Ds m/\m.sum<=4294967295
 |0,s,out,h,m,hm=>h m hm
 |f+1,s,out,h,m,hm=>by
  rw[ED]at hm;split at hm
  .grind
  .split at hm
   .cases hm
   .split at hm
    .rename_i hmay;refine kn f _ _ (fun x hx=>?_) m hm;rcases Dx.1 hx with hx|hx
     .grind
     .simp only[CF]at hx;subst hx;exact⟨hmay,xx s⟩
    .cases hm
def Zo:∀(f:Y) (s:Bh) (out:Ae M),Ajb (ED f s out).1<=Ajb out+f
 |0,s,out=>by simp[ED]
 |f+1,s,out=>by
  rw[ED];split
  .simp
  .split
   .simp
   .split
    .have:=Zo f (s.drop (11+first s)) (out++[IW s]);grind
    .simp
def Yu{m:M}(h:Ds m/\m.sum<=4294967295):m.Ok:=⟨by have:=(JO h.1).1;omega,h.2⟩
def kB(ss:Cn):∀m∈(Gt ss).1,m.Ok:=fun m a=>Yu (kn _ _ [] Bi m a)
def fL(s:Bh):(Ct s).1.data.length<=486:=by
 unfold Ct;split
 .rename_i h;show Ajb ((s.drop 19).take (nb ((s.drop 17).take 2)))<=486;grind
 .show Ajb ([]:Bh)<=486;simp
def XN(ss:Cn):Ajb (Er ss)<=486*Ajb ss:=by
 induction ss with
 |nil=>simp[Er]
 |cons s ss ih=>
  have a:=fL s;have e:Er (s::ss)=(Ct s).1.data++Er ss:=by simp[Er]
  grind
def gK{l:Cn}(h:Ajb l=5):∃s0 s1 s2 s3 s4,l=[s0,s1,s2,s3,s4]:=by
 match l,h with
 |[a,b,c,d,e],_=>simp
def VX{w:Ad}{B:Y}{A:Aw AC}{l:Cn}(h:Sl w B A (De l)){i:Y}(hi:i<Ajb l):∃b o,A=J ⟨b,o,Aa⟩/\b<B/\w.cell? ⟨b,o+i,Aa⟩=J (Bl l[i]):=by
 obtain⟨b,o,e,d,a⟩:=h.at_ (by rw[Aez];omega);exact⟨b,o,e,d,a i _ (Ts hi)⟩
def tn(ss:Cn)(hl:Ajb ss<=140737488355328)(A:Aw AC)(c B:Y)(w:Ad)(hG:Dy w)(hs:Sl w B A (De ss)):
 Bn prog 75 [.slice A (Ajb ss) c] w fun v w'=>(∃u,v=.tuple #[U (CB ss).1,u,U (((CB ss).2.2:Y):H)]/\Bo w' w.heap.size 60 5 u (Ajb (CB ss).2.1) (DK (CB ss).2.1))/\Bf w w':=by
 have bad:¬OkD ss->∀w',Bf w w'->(∃u,(Value.tuple #[U 0,.slice Aa 0 0,U 230])=.tuple #[U (CB ss).1,u,U (((CB ss).2.2:Y):H)]/\Bo w' w.heap.size 60 5 u (Ajb (CB ss).2.1) (DK (CB ss).2.1))/\Bf w w':=fun h w' n=>by
  rw[Su h];exact⟨⟨_,Z,Bo.nil _ _ _ _⟩,n⟩
 refine Bw func75 Z ntmps75 Be Z ?_;refine(O 13)<|Zi (fun P=>?_) fun P=>?_
 .refine(O 6∘CT) ?_;exact bad (fun h=>P (by have:=yy h;omega)) w (Bf.refl _)
 .have h5:Ajb ss=5:=X;have a7:=XN ss;refine(O 14)<|Lo (fun((i,g,wr):Y×H×Ad)=>(i<=Ajb ss/\(0<i->g=Ed ss)/\Bf w wr,[(0,.slice A (Ajb ss) c),(5,U g),(6,Bl ((Er (ss.take i)))),(17,.slice A (Ajb ss) c),(18,U ((Ajb ss:Y):H)),(19,U i)],wr,Ajb ss-i)) (0,0,w) ?_ ?_
  .exact⟨BE _,fun h=>by omega,Bf.refl _⟩
  .rintro⟨i,g,wr⟩⟨hi,hg,n⟩;refine(O 5)<|Zi (fun j=>?_) fun j=>?_
   .obtain⟨b,o,rfl,_,m⟩:=VX (hs.ext n) j;have G:ss.take (i+1)=ss.take i++[ss[i]]:=(CS j).symm;have D:=fun h:OkD ss=>ZN h j;have T:i=0->Ed ss=(Ct ss[i]).1.gen:=fun h=>by subst h;unfold Ed;grind
    generalize ss[i]=s at m G D T;have a1:=fL s;have a0:=XN (ss.take i);rw[BZ]at a0;have cd:=fun w=>fS s w;have W:Er (ss.take (i+1))=Er (ss.take i)++(Ct s).1.data:=by rw[G,sO]
    generalize(Ct s).1=x at cd D T a1 W;generalize(Ct s).2=e at cd D;refine(O 7∘Zv (Ca m)∘O 6∘Zc (cd wr)) ?_;rintro _ w1⟨rfl,a⟩;refine(O 3∘Zn) ?_;rintro xb w2 a5 a4 d;refine(Zs a4 (hlt:=Bv _)) ?_;rintro E ab al;refine(O 8) ?_;replace ab:Bk E xb 144 x.cells:=ab;have x3:Bf wr E:=Bu (a.trans d) al (a.trans d).size (fun k hk=>by simp at hk;have:=a.size;omega);refine Lc (fun(g2:H)=>((g2=Ed ss/\(0<i->g=g2)),[(0,.slice (J ⟨b,o,Aa⟩) (Ajb ss) c),(5,U g2),(6,Bl ((Er (ss.take i)))),(7,U i),(9,.pointer (J ⟨xb,0,Aa⟩)),(10,U e),(17,.slice (J ⟨b,o,Aa⟩) (Ajb ss) c),(18,U ((Ajb ss:Y):H)),(19,U i)],E)) ?_ ?_
    .refine Zi (fun h0=>?_) fun h0=>?_
     .refine(O 5∘Lm x.gen) ?_;omega
     .refine(O 1∘Lm g) ?_;omega
    .rintro g2⟨rfl,a6⟩;refine(O 2)<|Lc (fun(_u:Unit)=>(True,[(0,.slice (J ⟨b,o,Aa⟩) (Ajb ss) c),(5,U (Ed ss)),(6,Bl ((Er (ss.take i)))),(9,.pointer (J ⟨xb,0,Aa⟩)),(17,.slice (J ⟨b,o,Aa⟩) (Ajb ss) c),(18,U ((Ajb ss:Y):H)),(19,U i),(51,.bool (decide ((e≠0∨x.kind≠4∨x.gen≠Ed ss∨x.index≠i))))],E)) ?_ ?_
     .refine(O 4)<|Zd 35 (fun q1=>?_) fun q1=>?_
      .refine(O 17∘Cs 51 (.bool (decide ((e≠0∨x.kind≠4∨x.gen≠Ed ss∨x.index≠i)))) (e:=by exact Av Value.bool (AL (.inl q1)).symm)∘Lm ()) ?_;trivial
      .refine(O 5)<|Zd 40 (fun q2=>?_) fun q2=>?_
       .refine(O 12∘Cs 51 (.bool (decide ((e≠0∨x.kind≠4∨x.gen≠Ed ss∨x.index≠i)))) (e:=by exact Av Value.bool (AL (.inr (.inl q2))).symm)∘Lm ()) ?_;trivial
       .refine(O 6)<|Zd 46 (fun q3=>?_) fun q3=>?_
        .refine(O 6∘Cs 51 (.bool (decide ((e≠0∨x.kind≠4∨x.gen≠Ed ss∨x.index≠i)))) (e:=by exact Av Value.bool (AL (.inr (.inr (.inl q3)))).symm)∘Lm ()) ?_;trivial
        .refine(O 6∘Cs 51 (.bool (decide ((e≠0∨x.kind≠4∨x.gen≠Ed ss∨x.index≠i)))) (e:=by exact Av Value.bool (decide_eq_decide.2 ⟨fun h=>.inr (.inr (.inr h)),fun h=>h.elim (fun z=>absurd z q1) (fun h=>h.elim (fun z=>absurd z q2) (fun h=>h.elim (fun z=>absurd z q3) id))⟩))∘Lm ()) ?_;trivial
     .rintro _ _;refine Zi (fun hb=>?_) fun hb=>?_
      .refine(O 6∘CT) ?_;exact bad (fun h=>by grind) E (n.trans x3)
      .refine(O 13∘Cs 6 (Bl ((Er (ss.take (i+1))))) (e:=by exact Av Bl W.symm))<|Lb ((i+1),(Ed ss),E) ?_;exact⟨X,fun _=>rfl,n.trans x3⟩
   .obtain rfl:i=Ajb ss:=X;obtain rfl:=hg X;have cm:=kz (Er ss) X wr;have ai:=kB ss;have Q:=Zo (Ajb (Er ss)+1) (Er ss) [];have aj:ED (Ajb (Er ss)+1) (Er ss) []=Gt ss:=rfl;rw[aj]at cm Q;simp only[EZ,Fb]at Q;rw[DV];refine(O 4∘Zc cm) ?_;rintro _ w1⟨u,rfl,f,a⟩;refine(O 12) ?_;obtain⟨A1,c1,rfl,_,K⟩:=f.slice;refine Zi (fun S=>?_) fun S=>?_
    .refine(O 6∘CT) ?_;exact bad (fun h=>S (by have:=h.mem;omega)) w1 (n.trans a)
    .have ce:=gm (Ed ss) (Gt ss).1 ai X A1 c1 _ w1 ((hG.ext n).ext a) K;refine(O 5∘Zc ce) ?_;rintro _ w2⟨⟨u2,rfl,y⟩,d⟩;refine(O 12) ?_;have x2:=(n.trans a).trans d;obtain⟨A2,c2,rfl,_,r⟩:=y.slice;refine Zi (fun V=>?_) fun V=>?_
     .have t:(Es (Ed ss) (Gt ss).1).2=230:=by
       rcases UG (Ed ss) (Gt ss).1 with⟨_,q⟩|q
       .grind
       .rw[q]
      refine(O 7) ?_;rw[t];refine(CT) ?_;exact bad (fun h=>by rw[h.enc]at t;omega) w2 x2
     .have hE:Es (Ed ss) (Gt ss).1=((Es (Ed ss) (Gt ss).1).1,0):=by
       rcases UG (Ed ss) (Gt ss).1 with⟨_,q⟩|q
       .rw[q]
       .grind
      have L:=enc_len hE;have p:(Es (Ed ss) (Gt ss).1).1=ss->OkD ss:=fun q=>⟨X,Bg⟩;have N:(Es (Ed ss) (Gt ss).1).1≠ss->¬OkD ss:=fun q h=>q (by rw[h.enc]);generalize(Es (Ed ss) (Gt ss).1).1=os at L p N r;generalize(Es (Ed ss) (Gt ss).1).2=oe at V;have I:=hs.ext x2;obtain⟨s0,s1,s2,s3,s4,rfl⟩:=gK h5;obtain⟨r0,r1,r2,r3,r4,rfl⟩:=gK L;obtain⟨b3,o3,rfl,_,a2⟩:=I.at_ (by simp[De]);obtain⟨b2,o2,rfl,_,a3⟩:=r.at_ (by simp[De]);have ao:=(f.ext d);refine(O 5∘Zq (by exact fun _=>EX.arrayAt underlying189 Z X)∘Zq (by exact fun _=>KY (w:=w2.drewN _) (l:=[Bl r0,Bl r1,Bl r2,Bl r3,Bl r4]) underlying189 Z bu Z Z a3)∘O 1∘Zq (by exact fun _=>EX.arrayAt underlying189 Z X)∘Zq (by exact fun _=>KY (w:=w2.drewN _) (l:=[Bl s0,Bl s1,Bl s2,Bl s3,Bl s4]) underlying189 Z bu Z Z a2)∘Zq (by exact fun _=>pq underlying189 underlying9 Gz Be Z Z)∘QW.nil) fun nq=>Zi (fun C=>?_) fun C=>?_
      .refine(O 6∘CT) ?_;exact bad (N C) _ (x2.trans (Bf.drewN _ _))
      .have af:=p (Decidable.of_not_not C);refine(O 9∘CT) ?_;rw[Qz af];exact⟨⟨_,Z,(ao.drewN _).more n.size⟩,x2.trans (Bf.drewN _ _)⟩
end
namespace Wal
open Rec Pth Dsk
abbrev By:=Bh
structure Nt where
 kind:H
 mem:M
 deriving DecidableEq
def bare(p:By):M:=⟨p,0,0,0,0⟩
def IX(n:Nt):Aw By:=
 if n.kind=1 then(if Ds n.mem then J (Et n.mem)else Aa)
 else if n.kind=2 then(if Cw n.mem.path=0/\n.mem=bare n.mem.path then J n.mem.path else Aa)
 else Aa
def Hj(n:Nt):By:=(IX n).getD []
def CJ(n:Nt):Prop:=IX n≠Aa
instance(n:Nt):Decidable (CJ n):=by unfold CJ;infer_instance
def Gx(gen:Y):Y->Ae Nt->Ae By
 |_,[]=>[]
 |i,n::l=>text n.kind.toNat gen i (Hj n)::Gx gen (i+1) l
def txs(gen at_:Y)(l:Ae Nt):Ae By:=Gx gen at_ l++[text 3 gen (at_+Ajb l) [BU (Ajb l)]]
def SX(gen:Y):∀(l:Ae Nt) (i:Y),Ajb (Gx gen i l)=Ajb l
 |[],_=>rfl
 |n::l,i=>by simp[Gx,SX]
def ma(gen:Y)(n:Nt):∀(l:Ae Nt) (i:Y),Gx gen i (l++[n])=Gx gen i l++[text n.kind.toNat gen (i+Ajb l) (Hj n)]
 |[],i=>rfl
 |m::l,i=>by
  rw[Gi,Gx,Gx,ma,Gi,Cz,show i+1+Ajb l=i+(Ajb l+1) by omega]
def writes:Dv->Y->Ae By->Dv×Y
 |D,_,[]=>(D,0)
 |D,i,s::l=>if(D.write i s).2=0 then writes (D.write i s).1 (i+1) l else D.write i s
def Io(gen at_:H)(n:Y):Prop:=gen<0∨4611686018427387904<gen∨at_<0∨20<at_∨n=0∨20-at_<=n
instance(gen at_:H)(n:Y):Decidable (Io gen at_ n):=by unfold Io;infer_instance
def Fs(D:Dv)(gen at_:H)(l:Ae Nt):Dv×H×Y:=
 if Io gen at_ (Ajb l)∨∃n∈l,¬CJ n then(D,0,210)
 else
  let r:=writes D (10+at_.toNat) (txs gen.toNat at_.toNat l)
  if r.2=0 then(if r.1.sync.2=0 then(r.1.sync.1,at_+Ajb l+1,0)else(r.1.sync.1,0,r.1.sync.2))else(r.1,0,r.2)
def FK(x:R):Aw Nt:=
 if x.kind=1 then(if(ED (Ajb x.data+1) x.data []).2=0/\Ajb (ED (Ajb x.data+1) x.data []).1=1 then J ⟨1,(ED (Ajb x.data+1) x.data []).1.getD 0 (bare [])⟩else Aa)
 else if x.kind=2 then(if Cw x.data=0 then J ⟨2,bare x.data⟩else Aa)
 else Aa
def sec(s:By)(i:Y):By:=(s.drop (i*512)).take 512
def CK(gen:H)(rd:Y->By)(m:Y):Y->Y->Ae Nt->Ae (Ae Nt)->Y->Ae (Ae Nt)×Y
 |0,_,_,out,b=>(out,b)
 |f+1,i,op,out,b=>
  if i<m then
   let x:=Ct (rd i)
   if x.2≠0∨x.1.gen≠gen∨x.1.index≠i then(out,b)
   else if x.1.kind=3 then(if op=[]∨x.1.data≠[BU (Ajb op)]then(out,b)else CK gen rd m f (i+1) [] (out++[op]) (i+1))
   else match FK x.1 with
    |some n=>CK gen rd m f (i+1) (op++[n]) out b
    |none=>(out,b)
  else(out,b)
def Ek(s:By):Y:=min 20 (Ajb s/512-10)
def replay(s:By)(gen:H):Ae (Ae Nt)×Y:=CK gen (fun i=>sec s (10+i)) (Ek s) 21 0 [] [] 0
def JD(gen:H):Prop:=gen<0∨4611686018427387904<gen
instance(gen:H):Decidable (JD gen):=by unfold JD;infer_instance
def JQ(D:Dv)(gen:H):(Ae (Ae Nt)×Y)×Y:=if JD gen then(([],0),210)else if D.dead then(([],0),190)else(replay D.now gen,0)
def ru{s t:By}{a b n:Y}(ht:Ajb t=n)(j:a+n<=Ajb s)(h:b+n<=a∨b=a∨a+n<=b):((s.take a++t++s.drop (a+n)).drop b).take n=if b=a then t else(s.drop b).take n:=by
 have i:Ajb (s.take a)=a:=by rw[BZ];omega
 rcases h with f|f|f
 .by_cases d:b=a
  .have:n=0:=X;subst this;rw[Ai d,Qd,Ih ht]
  .rw[Ag d,Cx,TH X,TU Bg,WA,WN,Hb X]
 .grind
 .have g:Ajb (s.take a++t)=a+n:=by rw[BA,i,ht]
  have e:(s.take a++t++s.drop (a+n)).drop b=s.drop b:=by
   rw[List.drop_append,Le X,EP,Gj,g,show a+n+(b-(a+n))=b by omega]
  grind
def Aca{s t:By}{i j:Y}(h:(i+1)*512<=Ajb s)(ht:Ajb t=512):sec (s.take (i*512)++t++s.drop (i*512+512)) j=if j=i then t else sec s j:=by
 have e:=ru (s:=s) (a:=i*512) (b:=j*512) ht X X;unfold sec;grind
def Xk(i:Y)(t s:By):(Ch.write i t).ap s=(s++EN ((i+1)*512-Ajb s)).take (i*512)++t++(s++EN ((i+1)*512-Ajb s)).drop (i*512+Ajb t):=rfl
def Acb{s t:By}{i j:Y}(hm:Ajb s%512=0)(ht:Ajb t=512)(d:j=i∨j<Ajb s/512):sec ((Ch.write i t).ap s) j=if j=i then t else sec s j:=by
 have a:∀z,sec s j=sec (s++z) j∨¬j<Ajb s/512:=fun z=>by
  by_cases h:j<Ajb s/512
  .left;unfold sec;grind
  .omega
 have e:=Aca (s:=s++EN ((i+1)*512-Ajb s)) (i:=i) (j:=j) (by rw[BA,PK];omega) ht;rw[Xk,ht,e];grind
def Pb{s t:By}{i:Y}(ht:Ajb t=512)(hm:Ajb s%512=0):Ajb ((Ch.write i t).ap s)=max (Ajb s) ((i+1)*512):=by
 rw[Xk];simp only[BA,BZ,CM,PK,ht];omega
def Xy{s:By}(h1:Cw s=0):Ajb s<=120:=by
 unfold Cw at h1;split at h1
 .rename_i e;unfold GK at e;grind
 .omega
def SL{n:Nt}(h:CJ n):Ajb (Hj n)<=131/\(n.kind=1∨n.kind=2):=by
 unfold CJ at h;unfold Hj;unfold IX at h ⊢;by_cases d:n.kind=1
 .rw[Ai d]at h ⊢;by_cases a:Ds n.mem
  .rw[Ai a];have:=JO a;exact⟨by show Ajb (Et _)<=_;rw[UY];omega,X⟩
  .rw[Ag a]at h;exact AI Z h
 .rw[Ag d]at h ⊢;by_cases a:n.kind=2
  .by_cases e:Cw n.mem.path=0/\n.mem=bare n.mem.path
   .have:=Xy e.1;grind
   .grind
  .rw[Ag a]at h;exact AI Z h
def yf{n:Nt}(h:CJ n)(o:n.mem.sum<=4294967295)(g i:H):FK ⟨n.kind.toNat,g,i,Hj n⟩=J n:=by
 unfold CJ at h;unfold Hj;unfold IX at h ⊢;obtain⟨k,m⟩:=n;by_cases j:k=1
 .subst j;by_cases a:Ds m
  .rw[Ai a];have e:=Zm [m] (Ajb (Et m)+1) [] Bg (by simp[Cf]);have l:Cf [m]=Et m:=by simp[Cf]
   rw[l]at e
   have f:FK ⟨1,g,i,Et m⟩=J ⟨1,m⟩:=by
    unfold FK;rw[e];rfl
   exact f
  .rw[Ag a]at h;exact AI Z h
 .rw[Ag j]at h ⊢;by_cases a:k=2
  .subst a;by_cases d:Cw m.path=0/\m=bare m.path
   .rw[Ai d]
    have f:FK ⟨2,g,i,m.path⟩=J ⟨2,m⟩:=by
     unfold FK;simp only[if_true];rw[Ag Bi,Ai d.1,<-d.2]
    exact f
   .grind
  .rw[Ag a]at h;exact AI Z h
structure Rd(s:By)(k:Y)(g i:Y)(d:By):Prop where
 eq:Ct s=(⟨k,g,i,d⟩,0)
def am{k g i:Y}{d:By}(hk:1<=k/\k<=255)(f:g<=4611686018427387904)(hi:i<=2147483647)(h:Ajb d<=486):Rd (text k g i d) k g i d:=by
 refine⟨?_⟩;have a:¬bad k g i d:=by unfold bad;omega
 have e:ER k g i d=(text k g i d,0):=by
  unfold ER;rw[Ag a];rfl
 exact Ns hk.2 e
section
variable{gen:Y}{rd:Y->By}{m:Y}
def zQ{f i:Y}{op:Ae Nt}{out:Ae (Ae Nt)}{b:Y}{n:Nt}(a:CJ n)(d:n.mem.sum<=4294967295)(e:Rd (rd i) n.kind.toNat gen i (Hj n))(hi:i<m):
 CK gen rd m (f+1) i op out b=CK gen rd m f (i+1) (op++[n]) out b:=by
 have g:=(SL a).2;rw[CK,Ai hi,e.eq];simp only;rw[Ag Bi,Ag X,yf a d]
def zO{f i:Y}{op:Ae Nt}{out:Ae (Ae Nt)}{b:Y}(d:op≠[])(a:Rd (rd i) 3 gen i [BU (Ajb op)])(hi:i<m):
 CK gen rd m (f+1) i op out b=CK gen rd m f (i+1) [] (out++[op]) (i+1):=by
 rw[CK,Ai hi,a.eq];grind
def Good(l:Ae Nt):Prop:=∀n∈l,CJ n/\n.mem.sum<=4294967295
def Vw{g:Y}(hg:g<=4611686018427387904):∀(l:Ae Nt) (i:Y),Good l->i+Ajb l<=2147483647->∀k (hk:k<Ajb l),Rd ((Gx g i l).getD k []) (l[k]).kind.toNat g (i+k) (Hj l[k])
 |[],i,_,_,k,hk=>by grind
 |n::l,i,hl,hi,0,hk=>by
  have h:=SL (hl n Bi).1;exact am X hg X X
 |n::l,i,hl,hi,k+1,hk=>by
  have h:=Vw hg l (i+1) (fun x hx=>hl x Bg) Bg k Bg;rwa[show i+1+k=i+(k+1) by omega]at h
def av:∀(l:Ae Nt) (f i:Y) (op:Ae Nt) (out:Ae (Ae Nt)) (b:Y),Good l->(∀k (hk:k<Ajb l),Rd (rd (i+k)) (l[k]).kind.toNat gen (i+k) (Hj l[k]))->i+Ajb l<=m->
 CK gen rd m (f+Ajb l) i op out b=CK gen rd m f (i+Ajb l) (op++l) out b
 |[],f,i,op,out,b,_,_,_=>by simp
 |n::l,f,i,op,out,b,hl,hr,hm=>by
  simp at hm;have h0:Rd (rd i) n.kind.toNat gen i (Hj n):=hr 0 Bi
  have ih:=av l f (i+1) (op++[n]) out b (fun x hx=>hl x Bg) (fun k hk=>by
   have:=hr (k+1) Bg;grind) X
  rw[Cz,<-Kq,zQ (hl n Bi).1 (hl n Bi).2 h0 X,ih,Cx,show i+1+Ajb l=i+(Ajb l+1) by omega];rfl
def IE(g i:Y)(l:Ae Nt):Ajb (txs g i l)=Ajb l+1:=by simp[txs,SX]
def bD(g i:Y)(l:Ae Nt){k:Y}(h:k<Ajb l):(txs g i l).getD k []=(Gx g i l).getD k []:=by
 unfold txs;simp;rw[FN (by rw[SX];omega)]
def oz(g i:Y)(l:Ae Nt):(txs g i l).getD (Ajb l) []=text 3 g (i+Ajb l) [BU (Ajb l)]:=by
 unfold txs;simp;rw[Ii (by rw[SX];simp),SX,Fa];rfl
def mc{l:Ae Nt}{f i:Y}{out:Ae (Ae Nt)}{b:Y}(e:gen<=4611686018427387904)(hl:Good l)(a:l≠[])(d:∀k,k<Ajb l+1->rd (i+k)=(txs gen i l).getD k [])(hm:i+Ajb l+1<=m)(g:m<=20):
 CK gen rd m (f+(Ajb l+1)) i [] out b=CK gen rd m f (i+Ajb l+1) [] (out++[l]) (i+Ajb l+1):=by
 rw[show f+(Ajb l+1)=(f+1)+Ajb l by omega,av l _ i _ _ b hl (fun k h=>by
  rw[d k X,bD _ i l h];exact Vw e l i hl X k _) X,EP]
 refine zO a ?_ X;rw[d _ X,oz];exact am Bi e X Bi
def DB(g:Y):Y->Ae (Ae Nt)->Ae By
 |_,[]=>[]
 |i,l::ls=>txs g i l++DB g (i+Ajb l+1) ls
def Dw(ls:Ae (Ae Nt)):Y:=(ls.map (fun l=>Ajb l+1)).sum
def PE(l:Ae Nt)(a:Ae (Ae Nt)):Dw (l::a)=Ajb l+1+Dw a:=by rfl
def UT(g:Y):∀(ls:Ae (Ae Nt)) (i:Y),Ajb (DB g i ls)=Dw ls
 |[],_=>rfl
 |l::ls,i=>by rw[DB,BA,IE,UT,PE]
def jJ(g:Y)(l:Ae Nt):∀(ls:Ae (Ae Nt)) (i:Y),DB g i (ls++[l])=DB g i ls++txs g (i+Dw ls) l
 |[],i=>by simp[DB,Dw]
 |x::ls,i=>by
  rw[Gi,DB,DB,jJ,PE,Cx,show i+Ajb x+1+Dw _=i+(Ajb x+1+Dw ls) by omega]
def Om(ls:Ae (Ae Nt)):Prop:=∀l∈ls,Good l/\l≠[]
def ar(d:gen<=4611686018427387904)(a:m<=20):∀(ls:Ae (Ae Nt)) (f i:Y) (out:Ae (Ae Nt)) (b:Y),Om ls->(∀k,k<Dw ls->rd (i+k)=(DB gen i ls).getD k [])->i+Dw ls<=m->
 CK gen rd m (f+Dw ls) i [] out b=CK gen rd m f (i+Dw ls) [] (out++ls) (if ls=[]then b else i+Dw ls)
 |[],f,i,out,b,_,_,_=>by simp[Dw]
 |l::ls,f,i,out,b,hl,hr,hm=>by
  rw[PE]at hm hr;have h1:=hl l Bi
  have ih:=ar d a ls f (i+Ajb l+1) (out++[l]) (i+Ajb l+1) (fun x hx=>hl x Bg) (fun k hk=>by
   have:=hr (Ajb l+1+k) X;rw[DB,Ck,Ii (by rw[IE];omega),IE,show Ajb l+1+k-(Ajb l+1)=k by omega,show i+(Ajb l+1+k)=i+Ajb l+1+k by omega]at this;grind) X
  have e1:out++[l]++ls=out++l::ls:=Bi
  have e2:(if ls=[]then i+Ajb l+1 else i+Ajb l+1+Dw ls)=i+(Ajb l+1+Dw ls):=by
   by_cases e:ls=[]
   .subst e;rfl
   .grind
  have g:i+Ajb l+1+Dw ls=i+(Ajb l+1+Dw ls):=X
  rw[PE,show f+(Ajb l+1+Dw _)=(f+Dw ls)+(Ajb l+1) by omega,mc d h1.1 h1.2 (fun k hk=>by
   rw[hr k X,DB];simp;rw[FN (by rw[IE];omega)]) X a,ih,e1,e2,g,Ag Bi]
end
end Wal
namespace Wal
open Rec Pth Dsk
structure Sm(D:Dv)(k:Y):Prop where
 calls:D.calls<=k
 pend:Ajb D.pend<=k
 at_:D.at_<=9223372036854775807
 keep:Ajb D.keep<=140737488355328
def Sm.small{D:Dv}{k:Y}(h:Sm D k)(hk:k<=1000000000):Small D:=⟨by have:=h.calls;omega,by have:=h.pend;omega,h.at_,h.keep⟩
def Sm.more{D:Dv}{k k':Y}(h:Sm D k)(hk:k<=k'):Sm D k':=⟨by have:=h.calls;omega,by have:=h.pend;omega,h.at_,h.keep⟩
def XW{D:Dv}{k:Y}(h:Sm D k)(c:Aw Ch):Sm (D.Ago c).1 (k+1):=by
 obtain⟨g,f,e,d⟩:=h;by_cases a:(D.Agm c).at_=1
 .rw[UE a];refine⟨?_,Bi,Bi,Bi⟩;cases c<;>simp[Dv.Agm]<;>omega
 .rw[UF a];cases c with
  |none=>exact⟨by simp[Dv.done,Dv.Agm];omega,by simp[Dv.done],by simp[Dv.done,Dv.Agm];omega,d⟩
  |some c=>exact⟨by simp[Dv.done,Dv.Agm];omega,by simp[Dv.done,Dv.Agm,BA];omega,by simp[Dv.done,Dv.Agm];omega,d⟩
def Rx{D:Dv}{k:Y}(h:Sm D k)(i:H)(s:Bh):Sm (D.write i s).1 (k+1):=by
 unfold Dv.write;split
 .exact h.more X
 .split
  .exact h.more X
  .split
   .exact h.more X
   .exact XW h _
def aW{D:Dv}{k:Y}(h:Sm D k):Sm D.sync.1 (k+1):=by
 unfold Dv.sync;split
 .exact h.more X
 .exact XW h _
def Tt(D:Dv)(i:Y)(s:By)(l:Ae By):writes D i (s::l)=if(D.write i s).2=0 then writes (D.write i s).1 (i+1) l else D.write i s:=rfl
def bP:∀(l:Ae By) (D:Dv) (i:Y),D.Ok->(writes D i l).1.Ok
 |[],D,i,h=>h
 |s::l,D,i,h=>by
  rw[Tt];split
  .exact bP l _ _ (PI h _ _)
  .exact PI h _ _
def oT:∀(l:Ae By) (D:Dv) (i k:Y),Sm D k->Sm (writes D i l).1 (k+Ajb l)
 |[],D,i,k,h=>h
 |s::l,D,i,k,h=>by
  rw[Tt];split
  .have:=oT l _ (i+1) _ (Rx h i s);grind
  .exact(Rx h i s).more Bi
def lZ(g:Y):∀(l:Ae Nt) (i:Y),(∀n∈l,CJ n)->∀s∈Gx g i l,Ajb s=512
 |[],_,_,s,hs=>by simp[Gx]at hs
 |n::l,i,h,s,hs=>by
  rcases List.mem_cons.1 hs with q|q
  .rw[q];exact VQ _ _ _ _ (by have:=(SL (h n Bi)).1;omega)
  .exact lZ g l _ Bg s q
def VW{g i:Y}{l:Ae Nt}(h:∀n∈l,CJ n):∀s∈txs g i l,Ajb s=512:=by
 intro s a;rcases Dx.1 a with q|q
 .exact lZ g l i h s q
 .rw[CF.1 q];exact VQ _ _ _ _ Bi
def qR{D:Dv}{gen at_:H}{l:Ae Nt}(h:Io gen at_ (Ajb l)∨∃n∈l,¬CJ n):Fs D gen at_ l=(D,0,210):=by unfold Fs;grind
def dP{D:Dv}{gen at_:H}{l:Ae Nt}(h1:¬Io gen at_ (Ajb l))(a:∀n∈l,CJ n):Fs D gen at_ l=(let r:=writes D (10+at_.toNat) (txs gen.toNat at_.toNat l);if r.2=0 then(if r.1.sync.2=0 then(r.1.sync.1,at_+Ajb l+1,0)else(r.1.sync.1,0,r.1.sync.2))else(r.1,0,r.2)):=by
 unfold Fs;grind
end Wal
section
attribute [local irreducible] OW KW QW EX GW NV
open Dsk
def _root_.Go.Proofs.YtkmlafmjaeeanaaGreatDoor.Dsk.Dv.read(D:Dv)(i:H):Dv×Bh×Y:=
 if D.dead then(D,[],190)else if i<0∨((Ajb D.now/512:Y):H)<=i then(D,[],191)else({ D with calls:=D.calls+1 },(D.now.drop (i.toNat*512)).take 512,0)
def eE(l:Bh)(i j:Y):((BI l).drop i).take j=BI ((l.drop i).take j):=by simp[BI,TP]
section
variable{w:Ad}{B b:Y}{D:Dv}
def lV(h:Cm w B b D)(m:D.Ok)(q:Small D)(i:H)(P:-9223372036854775808<=i)(N:i<=9223372036854775807):
 Bn prog 48 [.pointer (J ⟨b,0,Aa⟩),U i] w fun v w'=>v=.tuple #[Bl (D.read i).2.1,U (((D.read i).2.2:Y):H)]/\Cm w' B b (D.read i).1/\Tm w w' B Cj:=by
 have L:=m.now;have K:=m.cap;have I:=q.calls;refine Bw Bi Z ntmps48 (by rfl) Z ?_;refine(O 9∘Zc (Qq h m)) ?_;rintro _ _⟨rfl,rfl⟩;refine(O 7) ?_;rcases hd:D.dead with _|_
 .refine(Cb 10∘O 8)<|Zd 14 (fun t=>?_) fun t=>?_
  .have e:D.read i=(D,[],191):=by unfold Dv.read;rw[hd,Ag Bi,Ai (X)]
   refine(O 12∘BG) ?_;rw[e];exact⟨Z,h,Tm.refl _ _ _⟩
  .refine(O 2∘Zc (Pa h m)) ?_;rintro _ _⟨rfl,rfl⟩;refine(O 3)<|Zi (fun r=>?_) fun r=>?_
   .have e:D.read i=(D,[],191):=by unfold Dv.read;rw[hd,Ag Bi,Ai (X)]
    refine(O 5∘BG) ?_;rw[e];exact⟨Z,h,Tm.refl _ _ _⟩
   .obtain⟨j,rfl⟩:=EY (show 0<=i by omega);have e:D.read j=({ D with calls:=D.calls+1 },(D.now.drop (j*512)).take 512,0):=by unfold Dv.read;rw[hd,Ag Bi,Ag X];rfl
    obtain⟨G,E,C,A,y,a⟩:=id h;refine(O 6∘Zv (Bp a.cells)∘O 3∘Zt a.cells) ?_;rintro x o k;refine(O 6) ?_;have g:=Dev.after (D':={ D with calls:=D.calls+1 }) a.lo a.cells k o a.kept a.now a.apart a.pend a.chs a.keep;obtain⟨A2,Q,p,n,f⟩:=g.now.slice;simp at p;obtain⟨rfl,rfl⟩:=p;dsimp at n f;refine(Zv (Bp Ce)∘O 5) ?_;refine WY Z Z underlying23 CE Z Z Z X (f) (EQ _) ?_;rintro A3 d;rw[eE]at d;have l:Ajb ((D.now.drop (j*512)).take ((j+1)*512-j*512))=(j+1)*512-j*512:=by rw[BZ,CM];omega
    refine(Zv (Eb d (hl:=l))∘O 3∘BG) ?_;rw[e];refine⟨?_,⟨_,_,_,_,_,g⟩,Dev.tmD a.lo a.cells k⟩;grind
 .have e:D.read i=(D,[],190):=by unfold Dv.read;rw[hd];rfl
  refine(HO 10∘O 7∘BG) ?_;rw[e];exact⟨Z,h,Tm.refl _ _ _⟩
end
end
namespace Cat
open Pth Rec Srt Dsk Wal
noncomputable def CR(D:Dv)(gen:H)(l:Ae M):Dv×Y:=open Classical in
 if OkE gen l/\OkC l D.cap then(let r:=writes D (gen.toNat%2*5) (EJ gen (Cf l));if r.2=0 then r.1.sync else r)else(D,230)
def mK{D:Dv}{gen:H}{l:Ae M}(h:¬(OkE gen l/\OkC l D.cap)):CR D gen l=(D,230):=by unfold CR;grind
def mJ{D:Dv}{gen:H}{l:Ae M}(h:OkE gen l/\OkC l D.cap):CR D gen l=(let r:=writes D (gen.toNat%2*5) (EJ gen (Cf l));if r.2=0 then r.1.sync else r):=by unfold CR;grind
def Te{gen:H}(s:Bh):∀t∈EJ gen s,Ajb t=512:=by
 intro t a;obtain⟨i,_,rfl⟩:=Cr.1 a;exact VQ _ _ _ _ (ac s i)
def mL{D:Dv}(h:D.Ok)(gen:H)(l:Ae M):(CR D gen l).1.Ok:=by
 unfold CR;split
 .simp;split
  .exact aV (bP _ _ _ h)
  .exact bP _ _ _ h
 .omega
def mN{D:Dv}{k:Y}(h:Sm D k)(gen:H)(l:Ae M):Sm (CR D gen l).1 (k+6):=by
 unfold CR;split
 .have a:=oT (EJ gen (Cf l)) D (gen.toNat%2*5) k h;rw[IC]at a;simp;split
  .exact(aW a).more X
  .exact a.more X
 .exact h.more X
def BT(s:Bh)(j:Y):Bh:=(s.drop (j*512)).take 512
def Cv(D:Dv)(k:Y):Cn:=(BF 5).map fun i=>BT D.now (k*5+i)
def VF(D:Dv)(k:Y):Ajb (Cv D k)=5:=by rfl
def Fh(D:Dv)(k:Y):Prop:=(k+1)*5<=Ajb D.now/512
instance(D:Dv)(k:Y):Decidable (Fh D k):=by unfold Fh;infer_instance
structure Right(D:Dv)(k:Y):Prop where
 has:Fh D k
 dec:(CB (Cv D k)).2.2=0
 par:(CB (Cv D k)).1%2=(k:H)
 chk:OkC (CB (Cv D k)).2.1 D.cap
noncomputable def DQ(D:Dv)(k:Y):Aw (H×Ae M):=open Classical in
 if Right D k then J ((CB (Cv D k)).1,(CB (Cv D k)).2.1)else Aa
noncomputable def Uq:Aw (H×Ae M)->Aw (H×Ae M)->H×Ae M×Y
 |some a,J b=>if b.1<a.1 then(a.1,a.2,0)else(b.1,b.2,0)
 |some a,Aa=>(a.1,a.2,0)
 |none,J b=>(b.1,b.2,0)
 |none,Aa=>(0,[],230)
noncomputable def Hw(D:Dv):H×Ae M×Y:=if D.dead then(0,[],190)else Uq (DQ D 0) (DQ D 1)
def Dh(D:Dv)(n:Y):Dv:={ D with calls:=D.calls+n }
def Mv(D:Dv):Y:=(if Fh D 0 then 5 else 0)+(if Fh D 1 then 5 else 0)
def CU(D:Dv):Dv:=if D.dead then D else Dh D (Mv D)
def SV{D:Dv}(h:D.Ok)(n:Y):(Dh D n).Ok:=⟨h.cap,h.kept,h.now,h.keptM,h.nowM,h.pend⟩
def Vy{D:Dv}{k:Y}(h:Sm D k)(n:Y):Sm (Dh D n) (k+n):=⟨by show D.calls+n<=_;have:=h.calls;omega,by show Ajb D.pend<=_;have:=h.pend;omega,h.at_,h.keep⟩
def Vx(D:Dv)(a b:Y):Dh (Dh D a) b=Dh D (a+b):=by unfold Dh;grind
def jQ{D:Dv}(h:D.Ok):(CU D).Ok:=by unfold CU;split;(· omega);(· exact SV h _)
def jR{D:Dv}{k:Y}(h:Sm D k):Sm (CU D) (k+10):=by
 unfold CU;split
 .exact h.more X
 .refine(Vy h _).more ?_;unfold Mv;grind
end Cat
section
attribute [local irreducible] OW KW QW EX GW NV
open Pth Rec Srt Cat Dsk Wal
def mM{D:Dv}(hD:D.Ok){k:Y}(ai:Sm D k)(hk:k<=900000000)(B b:Y)(gen:H)(g0:-9223372036854775808<=gen)(g1:gen<=9223372036854775807)(l:Ae M)(hl:Ajb l<=140737488355328)(W:∀m∈l,m.Ok)(A:Aw AC)(c C:Y)(w:Ad)(hG:Dy w)(h:Cm w B b D)(hs:Sl w C A (DK l)):
 Bn prog 44 [.pointer (J ⟨b,0,Aa⟩),U gen,.slice A (Ajb l) c] w fun v w'=>v=U (((CR D gen l).2:Y):H)/\Cm w' B b (CR D gen l).1/\Tm w w' B Cj:=by
 have a2:=hD.cap
 have a5:∀w',Bf w w'->¬(OkE gen l/\OkC l D.cap)->(Value.int .i64 230=U (((CR D gen l).2:Y):H)/\Cm w' B b (CR D gen l).1/\Tm w w' B Cj):=fun w' hx q=>by
  rw[mK q];exact⟨Z,h.ext hx,Tm.Agk hx _ _⟩
 refine Bw func44 Z ntmps44 (by rfl) Z ?_;refine(O 8∘Zc (Ht h hD)) ?_;rintro _ _⟨rfl,rfl⟩;refine(O 2)<|Zi (fun h0=>?_) fun h0=>?_
 .omega
 .refine(O 5∘Zc (gm gen l W hl A c C w hG hs)) ?_;rintro _ w1⟨⟨u,rfl,j⟩,t⟩;refine(O 12)<|Zi (fun he=>?_) fun he=>?_
  .have N:¬OkE gen l:=fun q=>by rw[Sw q]at he;omega
   have r:(Es gen l).2=230:=by rw[XZ N]
   refine(O 5) ?_;rw[r];refine(Br) ?_;grind
  .have hE:OkE gen l:=by
    rcases UG gen l with⟨q,_⟩|q
    .omega
    .grind
   rw[Sw hE]at j;simp only[IC]at j;have p:=h.ext t;refine(O 6∘Zc (Ht p hD)) ?_;rintro _ _⟨rfl,rfl⟩;refine(Zc (Uw l W hl D.cap A c C w1 (hG.ext t) (hs.ext t))) ?_;rintro _ w2⟨rfl,I⟩;refine(O 7) ?_;have x2:=t.trans I;refine Zi (fun hc=>?_) fun hc=>?_
   .have N:¬OkC l D.cap:=fun q=>by rw[Si q]at hc;omega
    have r:Kz l D.cap=230:=OG N;refine(O 5) ?_;rw[r];refine(Br) ?_;grind
   .have hC:OkC l D.cap:=IG fun q=>hc (by rw[OG q];decide);obtain⟨g,rfl⟩:=EY hE.low;have a3:=hE.high;have S:=mJ (D:=D) (gen:=(g:H)) ⟨hE,hC⟩;have y:=Te (gen:=(g:H)) (Cf l);have aj:=IC (g:H) (Cf l);have e:=j.ext I;generalize EJ (g:H) (Cf l)=T at S y aj e;simp only[TD]at S;obtain⟨A3,c3,rfl,a4,_⟩:=e.slice;have h1:=p.ext I;refine(O 9)<|Lo (fun((i,E,wr):Y×Dv×Ad)=>(i<=5/\E.Ok/\Sm E (k+i)/\writes E (g%2*5+i) (T.drop i)=writes D (g%2*5) T/\Cm wr B b E/\Tm w wr B Cj/\Bo wr w.heap.size 9 1 (.slice A3 5 c3) 5 (T.map Bl),[(0,.pointer (J ⟨b,0,Aa⟩)),(1,U g),(32,.slice A3 5 c3),(33,U ((5:Y):H)),(34,U i)],wr,5-i)) (0,D,w2) ?_ ?_
    .exact⟨BE _,hD,ai,Z,h1,Tm.Agk x2 _ _,e⟩
    .rintro⟨i,E,wr⟩⟨hi,Q,L,x,G,K,f⟩;refine(O 5)<|Zi (fun al=>?_) fun al=>?_
     .have n:i<Ajb T:=X;have a0:T.drop i=T[i]::T.drop (i+1):=DE n;have a1:=y T[i] (BM n);have ab:(T.map Bl)[i]? =J (Bl T[i]):=by rw[Eh,BR n];rfl
      rw[a0,Tt]at x;generalize T[i]=s at x a1 ab;obtain⟨A4,c4,e4,_,V⟩:=f.slice;cases e4;obtain⟨bb,o,rfl,_,P⟩:=V.at_ Bg;refine(O 7∘Zv (Ca (P i _ ab))∘O 12) ?_;have cw:=Wa G Q (L.small X) ((g%2*5+i:Y):H) X X s X;refine(Zc cw) ?_;rintro _ w5⟨rfl,a,d⟩;refine(O 7)<|Zi (fun ao=>?_) fun ao=>?_
      .rw[Ag X]at x;refine(O 5∘Br) ?_;rw[S,<-x];rw[Ag X];exact⟨Z,a,K.trans d⟩
      .rw[Ai X]at x;refine(O 6)<|Lb ((i+1),((E.write ((g%2*5+i:Y):H) s).1),w5) ?_;exact⟨X,PI Q _ _,Rx L _ _,x,a,K.trans d,d.own f Bc⟩
     .obtain rfl:i=5:=X;rw[Le X]at x;have af:writes D (g%2*5) T=(E,0):=x.symm;rw[af]at S;simp only[if_true]at S;refine(O 4∘Zc (Tl G Q (L.small X))) ?_;rintro _ w5⟨rfl,a,d⟩;refine(O 2∘Br) ?_;rw[S];exact⟨Z,a,K.trans d⟩
section
variable{w w':Ad}{B b:Y}{D:Dv}{vk vn vp vq:Ah}{vs:Bm}
def Dev.mo{S:Bj}(h:Dev w B b D vk vn vp vq vs)(hm:Mo w w' S)(o:∀k∈S,∃T l,Bk w k T l/\T≠85/\T≠5/\T≠137/\T≠4)(e:KU w' D.pend vs):Dev w' B b D vk vn vp vq vs:=by
 have nb:∀{k T l},Bk w k T l->(T=85∨T=5∨T=137∨T=4)->k∉S:=fun {k T l} i m d=>by
  obtain⟨T',p,f,x,t,r,q⟩:=o k d;obtain⟨rfl,_⟩:=i.det f;grind
 have a:∀{T v n g},Bo w B T 1 v n g->(T=85∨T=5∨T=137∨T=4)->∀k,v.ownBlock=J k->k∉S:=fun {T v n g} j m k d=>by
  obtain⟨_,l,i⟩:=j.blkT k d;grind
 exact⟨h.lo,h.cells.mo hm (nb h.cells Bi),h.kept.mo hm (a h.kept Bi),h.now.mo hm (a h.now Bi),h.apart,h.pend.mo hm (a h.pend Bi),e,h.keep.mo hm (a h.keep Bi)⟩
def lX(hv:Dev w B b D vk vn vp vq vs)(k:D.Ok)(p:Small D)(q:D.dead=Aj){j:Y}(A:j<Ajb D.now/512):
 Bn prog 48 [.pointer (J ⟨b,0,Aa⟩),U (j:H)] w fun v w'=>v=.tuple #[Bl (BT D.now j),U ((0:Y):H)]/\Dev w' B b (Dh D 1) vk vn vp vq vs/\Mo w w' [b]:=by
 have y:=k.now;have x:=k.cap;have t:=p.calls;have h:=hv.at_;have o:=Qq h k;rw[q]at o;refine Bw Bi Z ntmps48 (by rfl) Z ?_;refine(O 9∘Zc o) ?_;rintro _ _⟨rfl,rfl⟩;refine(O 7∘Cb 10∘O 8∘IQ 14∘O 2∘Zc (Pa h k)) ?_;rintro _ _⟨rfl,rfl⟩;refine(O 3∘Cb 19∘O 7) ?_;refine(Zv (Bp hv.cells)∘O 3∘Zt hv.cells) ?_;rintro r m g;refine(O 6) ?_;have d:=Dev.after (D':=Dh D 1) hv.lo hv.cells g m hv.kept hv.now hv.apart hv.pend hv.chs hv.keep;obtain⟨A2,C,n,l,f⟩:=d.now.slice;simp[Dh,Value.slice.injEq,true_and]at n;obtain⟨rfl,rfl⟩:=n;dsimp[Dh]at l f;refine(Zv (Bp Ce)∘O 5) ?_;refine WY Z Z Bi CE Z Z Z X X (EQ _) ?_;rintro A3 a;rw[eE]at a;have e:(j+1)*512-j*512=512:=X;have i:Ajb ((D.now.drop (j*512)).take ((j+1)*512-j*512))=(j+1)*512-j*512:=by rw[BZ,CM];omega
 refine(Zv (Eb a (hl:=i))∘O 3∘BG) ?_;refine⟨?_,d,g⟩;rw[e];rfl
end
structure SlI(w:Ad)(B0:Y)(D:Dv)(j:Y)(g:H)(v:Ah)(r:Ar):Prop where
 right:r=Af↔Right D j
 gen:r=Af->g=(CB (Cv D j)).1
 own:r=Af->Bo w B0 60 5 v (Ajb (CB (Cv D j)).2.1) (DK (CB (Cv D j)).2.1)
def JC(w:Ad)(B0:Y)(D:Dv)(j k:Y)(g:H)(v:Ah)(r:Ar):Prop:=v.oneCell'=Af/\(j<k->SlI w B0 D j g v r)/\(k<=j->r=Aj)
def Kv(w:Ad)(B0 sb:Y)(D:Dv)(k:Y):Prop:=∃g0 v0 r0 g1 v1 r1,Bk w sb 140 [U g0,v0,.bool r0,U g1,v1,.bool r1]/\JC w B0 D 0 k g0 v0 r0/\JC w B0 D 1 k g1 v1 r1
def JC.keep{w w':Ad}{B0:Y}{D:Dv}{j k:Y}{g:H}{v:Ah}{r:Ar}(h:JC w B0 D j k g v r)(ho:∀{v n xs},Bo w B0 60 5 v n xs->Bo w' B0 60 5 v n xs):JC w' B0 D j k g v r:=
 ⟨h.1,fun q=>⟨(h.2.1 q).right,(h.2.1 q).gen,fun z=>ho ((h.2.1 q).own z)⟩,h.2.2⟩
def Kv.keep{w w':Ad}{d a:Y}{D:Dv}{k:Y}(h:Kv w d a D k)(e:∀{v n xs},Bo w d 60 5 v n xs->Bo w' d 60 5 v n xs)(m:∀{l},Bk w a 140 l->Bk w' a 140 l):Kv w' d a D k:=by
 obtain⟨t,g,j,r,f,i,q,p,o⟩:=h;exact⟨t,g,j,r,f,i,m q,p.keep e,o.keep e⟩
def JC.skip{w:Ad}{a:Y}{D:Dv}{j k:Y}{g:H}{v:Ah}{r:Ar}(h:JC w a D j k g v r)(e:¬Fh D k):JC w a D j (k+1) g v r:=by
 refine⟨h.1,fun q=>?_,fun q=>h.2.2 X⟩;rcases Df j k with z|z
 .exact h.2.1 z
 .obtain rfl:j=k:=X;have d:=h.2.2 z;subst d;exact⟨⟨(fun q=>by cases q),fun q=>absurd q.has e⟩,fun q=>(by cases q),fun q=>(by cases q)⟩
def Kv.skip{w:Ad}{e a:Y}{D:Dv}{k:Y}(h:Kv w e a D k)(d:¬Fh D k):Kv w e a D (k+1):=by
 obtain⟨p,g,j,o,f,i,n,m,l⟩:=h;exact⟨p,g,j,o,f,i,n,m.skip d,l.skip d⟩
def JC.next{w:Ad}{B0:Y}{D:Dv}{j k:Y}{g:H}{v:Ah}{r:Ar}(h:JC w B0 D j k g v r)(hn:j≠k):JC w B0 D j (k+1) g v r:=
 ⟨h.1,fun q=>h.2.1 X,fun q=>h.2.2 X⟩
def Aco{w w':Ad}{a e:Y}{D:Dv}{k:Y}{g i h:H}{v v0 v1:Ah}{r r0 r1:Ar}(hk:k<2)(p:Bk w e 140 [U i,v0,.bool r0,U h,v1,.bool r1])(h0:JC w a D 0 k i v0 r0)(h1:JC w a D 1 k h v1 r1)(m:JC w a D k (k+1) g v r)(hm:Mo w w' [e])
 (d:Bk w' e 140 ([U i,v0,.bool r0,U h,v1,.bool r1].take (0+k*3)++[U g,v,.bool r]++[U i,v0,.bool r0,U h,v1,.bool r1].drop (0+k*3+3))):Kv w' a e D (k+1):=by
 have f:∀{v n j},Bo w a 60 5 v n j->Bo w' a 60 5 v n j:=fun {v n j} l=>l.mo hm (fun q o=>by simp;exact fun z=>l.ne p Bc q o z.symm);rcases(show k=0∨k=1 by omega)with rfl|rfl
 .exact⟨_,_,_,_,_,_,d,m.keep f,(h1.next Bc).keep f⟩
 .exact⟨_,_,_,_,_,_,d,(h0.next Bc).keep f,m.keep f⟩
def ej{w:Ad}{b:Y}{T:Ay}{l l2:Bm}{o:Y}(h:Bk w b T l)(e:(l.drop o).take (Ajb l2)=l2):∀j u,l2[j]? =J u->w.cell? ⟨b,o+j,Aa⟩=J u:=by
 intro j u a;have d:=(Ki.1 a).1;refine h.cell_of ?_;grind
def LD{w w':Ad}{B:Y}{p:Ay->Ar}(h:Dy w)(ht:Tm w w' B p)(f:0<B):Dy w':=by
 obtain⟨m,e⟩:=h;obtain⟨S,a,g⟩:=ht;have d:=World.block_lt_of_cell? w _ e;refine⟨m,?_⟩;have i:=a.block 0 d (fun q=>by grind);unfold World.cell? at e ⊢;grind
section
variable{w w':Ad}{B b:Y}{D:Dv}{vk vn vp vq:Ah}{vs:Bm}
def Dev.tmB(h:Dev w B b D vk vn vp vq vs)(hm:Mo w w' [b]):Tm w w' B Cj:=⟨[b],hm,fun k hk=>by
 simp only[CF]at hk;subst hk;exact⟨h.lo,_,_,h.cells,Z⟩⟩
end
def sY{ss:Cn}(h:(CB ss).2.2=0):0<=(CB ss).1:=by
 rcases NZ (OkD ss)with q|q
 .rw[Qz q];exact(Sx q.enc).1.low
 .rw[Su q]at h;grind
def sV(ss:Cn):(∀m∈(CB ss).2.1,m.Ok)/\Ajb (CB ss).2.1<=1000000000∨1000000<Ajb ss:=by
 rcases Df 1000000 (Ajb ss)with d|d
 .omega
 .left;rcases NZ (OkD ss)with q|q
  .rw[Qz q];refine⟨kB ss,?_⟩;have f:=Zo (Ajb (Er ss)+1) (Er ss) [];have e:=XN ss;have a:ED (Ajb (Er ss)+1) (Er ss) []=Gt ss:=rfl;grind
  .rw[Su q];simp
def Acn{D:Dv}{k i:Y}(h:i<5):De ((Cv D k).take (i+1))=De ((Cv D k).take i)++[Bl (BT D.now (k*5+i))]:=by
 have a:i<Ajb (Cv D k):=by rw[VF];exact h
 rw[<-CS a];simp[De,Cv]
def rR{D:Dv}(hD:D.Ok){k0:Y}(cp:Sm D k0)(dv:k0<=900000000)(B b:Y)(w:Ad)(hG:Dy w)(cc:0<B)(h:Cm w B b D):
 Bn prog 39 [.pointer (J ⟨b,0,Aa⟩)] w fun v w'=>(∃u,v=.tuple #[U (Hw D).1,u,U (((Hw D).2.2:Y):H)]/\Bo w' w.heap.size 60 5 u (Ajb (Hw D).2.1) (DK (Hw D).2.1))/\Cm w' B b (CU D)/\Tm w w' B Cj:=by
 have df:=hD.cap;have c6:=hD.now;refine Bw func39 Z ntmps39 Be Z ?_;refine(O 10∘Zc (Ht h hD)) ?_;rintro _ _⟨rfl,rfl⟩;refine(O 2)<|Zi (fun h0=>?_) fun h0=>?_
 .omega
 .refine(O 5∘Zc (Qy h hD)) ?_;rintro _ _⟨rfl,rfl⟩;refine(O 1) ?_;refine HD Z (fun hd=>?_) (fun hd=>?_)
  .have e1:Hw D=(0,[],190):=by unfold Hw;rw[Ai hd]
   have e2:CU D=D:=by unfold CU;rw[Ai hd]
   refine(O 6∘CT) ?_;rw[e1,e2];exact⟨⟨_,Z,Bo.nil _ _ _ _⟩,h,Tm.refl _ _ _⟩
  .have e1:Hw D=Uq (DQ D 0) (DQ D 1):=by unfold Hw;rw[Ag (by rw[hd];decide)]
   have e2:CU D=Dh D (Mv D):=by unfold CU;rw[Ag (by rw[hd];decide)]
   rw[e1,e2];obtain⟨vk,vn,vp,vq,vs,hv⟩:=id h;refine(O 3∘Zn) ?_;rintro L w1 db c2 m;refine(O 6) ?_;have g:Kv w1 w.heap.size L D 0:=⟨_,_,_,_,_,_,c2,⟨Z,fun q=>by omega,fun _=>rfl⟩,⟨Z,fun q=>by omega,fun _=>rfl⟩⟩;refine Lc (fun(wr:Ad)=>(Dev wr B b (Dh D (Mv D)) vk vn vp vq vs/\Tm w wr B Cj/\Kv wr w.heap.size L D 2,[(5,.pointer (J ⟨L,0,Aa⟩))],wr)) ?_ ?_
   .refine(O 1)<|Lo (fun((k,n,wr):Y×Y×Ad)=>(k<=2/\n=(if 0<k/\Fh D 0 then 5 else 0)+(if 1<k/\Fh D 1 then 5 else 0)/\Dev wr B b (Dh D n) vk vn vp vq vs/\Tm w wr B Cj/\Kv wr w.heap.size L D k,[(0,.pointer (J ⟨b,0,Aa⟩)),(5,.pointer (J ⟨L,0,Aa⟩)),(21,U k)],wr,2-k)) (0,0,w1) ?_ ?_
    .exact⟨BE _,Bi,hv.ext m,Tm.Agk m _ _,g⟩
    .rintro⟨k,n,wr⟩⟨ds,hn,f,ab,g⟩;have c8:n<=10:=by rw[hn];split<;>split<;>omega
     have dk:(Dh D n).dead=Aj:=hd;have cq:(Dh D n).Ok:=SV hD n;have c4:B<=L:=by have:=f.lo;have:=hv.lo;have:=hv.cells.lt;omega
     have cs:(Dh D n).now.length=Ajb D.now:=rfl;refine(O 5)<|Zi (fun a9=>?_) fun a9=>?_
     .have dn:(if 0<k+1/\Fh D 0 then 5 else 0)+(if 1<k+1/\Fh D 1 then 5 else 0)=n+(if Fh D k then 5 else 0):=by
       rcases(show k=0∨k=1 by omega)with rfl|rfl
       .rw[hn];simp
       .rw[hn];simp
      refine(O 12∘Zc (Pa f.at_ cq)) ?_;rintro _ _⟨rfl,rfl⟩;refine(O 5)<|Zi (fun bi=>?_) fun bi=>?_
      .have ct:¬Fh D k:=fun q=>by unfold Fh at q;omega
       refine(O 5)<|Lb ((k+1),n,wr) ?_;refine⟨X,?_,f,ab,g.skip ct⟩;grind
      .have bb:Fh D k:=by rw[cs]at bi;unfold Fh;omega
       have bj:=bb;unfold Fh at bj;refine(O 10)<|Lc (fun((v,K):Ah×Ad)=>(Bo K wr.heap.size 9 1 v 5 (De (Cv D k))/\Dev K B b (Dh D (n+5)) vk vn vp vq vs/\Mo wr K [b],[(0,.pointer (J ⟨b,0,Aa⟩)),(5,.pointer (J ⟨L,0,Aa⟩)),(6,U k),(7,v),(21,U k)],K)) ?_ ?_
       .refine(O 1)<|Lo (fun((i,v,K):Y×Ah×Ad)=>(i<=5/\Bo K wr.heap.size 9 1 v i (De ((Cv D k).take i))/\Dev K B b (Dh D (n+i)) vk vn vp vq vs/\Mo wr K [b],[(0,.pointer (J ⟨b,0,Aa⟩)),(5,.pointer (J ⟨L,0,Aa⟩)),(6,U k),(7,v),(21,U k),(30,U i)],K,5-i)) (0,(.slice Aa 0 0),wr) ?_ ?_
        .exact⟨BE _,Bo.nil _ _ _ _,f,Mo.refl _ _⟩
        .rintro⟨i,v,K⟩⟨hi,E,a2,aj⟩;refine(O 5)<|Zi (fun cu=>?_) fun cu=>?_
         .have cr:=lX a2 (SV hD _) ((Vy cp (n+i)).small X) hd (j:=k*5+i) (by show _<Ajb D.now/512;omega);refine(O 15∘Zc cr) ?_;rintro _ w5⟨rfl,co,cb⟩;refine(O 9) ?_;have N:=E.mo cb (fun q hq=>by simp;exact fun z=>E.ne a2.cells Bc q hq z.symm);have bh:=aj.trans cb;refine(Qp wr.heap.size bh.size N) ?_;rintro _ v6 w6 bq bf c1;refine(O 7)<|Lb ((i+1),v6,w6) ?_
          have ca:Mo wr w6 [b]:=Mo.fresh (S:=[b]++v.ownBlock.toList) ((bh.mono Bi).trans (bf.mono Bg)) (fun q hq a9=>by
           rcases Dx.1 hq with z|z
           .omega
           .have:=(N.lt q (FC.1 z)).1;omega)
          refine⟨X,by rw[Acn X];exact bq,?_,ca⟩
          have dg:=co.mo bf (fun q hq=>by
           obtain⟨_,l,d3⟩:=N.blkT q (FC.1 hq);grind) (f.chs.tm (f.tmB ca) Z Z)
          assumption
         .obtain rfl:i=5:=X;rw[Dq Ce]at E;refine(O 1∘Lm (v,K)) ?_;grind
       .rintro⟨v,K⟩⟨E,a2,aj⟩;obtain⟨A5,c5,rfl,_,b9⟩:=E.slice;have bl:Tm w K B Cj:=ab.trans (f.tmB aj);have c3:=LD hG bl cc;have cv:=VF D k;have cd:=tn (Cv D k) X A5 c5 _ K c3 b9;rw[cv]at cd;have b1:=sY (ss:=Cv D k);have ce:=(sV (Cv D k)).resolve_right X;have d:∀r:Ar,(r=Af↔((CB (Cv D k)).2.2=0/\(CB (Cv D k)).1%2=(k:H)/\OkC (CB (Cv D k)).2.1 D.cap))->(r=Af↔Right D k):=fun r q=>q.trans ⟨fun z=>⟨bb,z.1,z.2.1,z.2.2⟩,fun z=>⟨z.dec,z.par,z.chk⟩⟩;have bm:Kv K w.heap.size L D k:=g.keep (fun ho=>(f.tmB aj).own ho Bc) (fun hb=>(f.tmB aj).bk hb Bc);have b2:∀(w':Ad) (v:Ah) (r:Ar),(r=Af↔Right D k)->Bo w' w.heap.size 60 5 v (Ajb (CB (Cv D k)).2.1) (DK (CB (Cv D k)).2.1)->JC w' w.heap.size D k (k+1) (CB (Cv D k)).1 v r:=fun w' v r h1 h2=>⟨Bo.one h2,fun _=>⟨h1,fun _=>rfl,fun _=>h2⟩,fun q=>by omega⟩;generalize da:(CB (Cv D k)).1=gg at cd b1 d b2;generalize c9:(CB (Cv D k)).2.1=ll at cd ce d b2;generalize(CB (Cv D k)).2.2=ee at cd b1 d;refine(O 3∘Zc cd) ?_;rintro _ w7⟨⟨u7,rfl,af⟩,a1⟩;refine(O 8) ?_;have bn:Kv w7 w.heap.size L D k:=bm.keep (fun ho=>ho.ext a1) (fun hb=>hb.ext a1);have b6:=a2.ext a1;have b7:Tm w w7 B Cj:=bl.trans (Tm.Agk a1 _ _);have cn:=bl.size;have a5:Bo w7 w.heap.size 60 5 u7 (Ajb ll) (DK ll):=af.more cn;obtain⟨A7,c7,rfl,_,b8⟩:=af.slice;obtain⟨Q,v0,r0,P,v1,W,T,a7,a6⟩:=bn
        have C:∀(r:Ar) (wx V:Ad),(r=Af↔Right D k)->Bf w7 wx->Bk V L 140 ([U Q,v0,.bool r0,U P,v1,.bool W].take (0+k*3)++[U gg,.slice A7 (Ajb ll) c7,.bool r]++[U Q,v0,.bool r0,U P,v1,.bool W].drop (0+k*3+3))->Mo wx V [L]->(k+1<=2/\n+5=(if 0<k+1/\Fh D 0 then 5 else 0)+(if 1<k+1/\Fh D 1 then 5 else 0)/\Dev V B b (Dh D (n+5)) vk vn vp vq vs/\Tm w V B Cj/\Kv V w.heap.size L D (k+1)):=fun r wx V q I hb hm=>by
         have b5:=b6.ext I;have cf:=T.ext I;refine⟨X,Bg,b5.mo hm (fun z hz=>?_) (b5.chs.tm (Tm.set cf hm c4) Z Z),(b7.trans (Tm.Agk I _ _)).fresh hm (fun z hz=>?_),Aco X cf (a7.keep (fun ho=>ho.ext I)) (a6.keep (fun ho=>ho.ext I)) (b2 wx _ r q (a5.ext I)) hm hb⟩
         .grind
         .grind
        refine(O 7)<|Zd 58 (fun he=>?_) fun he=>?_
        .obtain rfl:ee=0:=X;obtain⟨gN,rfl⟩:=EY (b1 Z);refine(O 6)<|Zd 64 (fun hp=>?_) fun hp=>?_
         .refine(O 2∘Zc (Ht b6.at_ (SV hD _))) ?_;rintro _ _⟨rfl,rfl⟩;refine(Zc (Uw ll ce.1 X D.cap A7 c7 _ w7 (LD hG b7 cc) b8)) ?_;rintro _ w8⟨rfl,b4⟩;refine OW.val Z Z (by first|exact Ob (b:=0) Z Z|exact Oc Z Z) ?_;refine OW.val Z Z (Oi Z Z) ?_;refine OW.val Z Z (PP (pl:=[(0,1),(1,1),(2,1)]) (ks:=[0,1,2]) (is:=[0,1,2]) (zs:=[U 0,.slice Aa 0 0,.bool Aj]) underlying139 LK Be Z Z Z (by first|rfl|(simp only[HF,HG,HB,Ig,Bool.and_eq_true,Value.oneCell'];repeat (first|assumption|exact Bo.one Ce|constructor))) (by simp only[KN,Ko,Kn];rfl)) ?_;refine OW.val Z Z (PR underlying140 LK Z Z X) ?_;refine Ug Z LK Z Z Z (by first|rfl|(simp only[HF,HG,HB,Ig,Bool.and_eq_true,Value.oneCell'];repeat (first|assumption|exact Bo.one Ce|constructor))) ((T.ext b4)) Bx ?_;rintro w9 a0 al;refine(O 6)<|Lb ((k+1),(n+5),w9) ?_;refine C _ w8 w9 ?_ b4 a0 al;apply d;have e9:(Kz ll (D.cap:H)=0)↔OkC ll (D.cap:H):=⟨fun z=>IG fun y=>(by rw[OG y]at z;omega),fun z=>Si z⟩;simp only[decide_eq_true_eq];refine Iff.intro (fun z=>If ?_ (If ?_ (e9.1 z))) (fun z=>e9.2 z.2.2)
          .simp
          .omega
         .refine HM Z Z ?_;refine HM Z Z ?_;refine HM Z Z ?_;refine HM Z Z ?_;refine HM Z Z ?_;refine OW.val Z Z (Jq Z Z) ?_;refine OW.val Z Z (PP (pl:=[(0,1),(1,1),(2,1)]) (ks:=[0,1,2]) (is:=[0,1,2]) (zs:=[U 0,.slice Aa 0 0,.bool Aj]) underlying139 LK Be Z Z Z (by first|rfl|(simp only[HF,HG,HB,Ig,Bool.and_eq_true,Value.oneCell'];repeat (first|assumption|exact Bo.one Ce|constructor))) (by simp only[KN,Ko,Kn];rfl)) ?_;refine OW.val Z Z (PR underlying140 LK Z Z X) ?_;refine Ug Z LK Z Z Z (by first|rfl|(simp only[HF,HG,HB,Ig,Bool.and_eq_true,Value.oneCell'];repeat (first|assumption|exact Bo.one Ce|constructor))) (T) Bx ?_;rintro w9 a0 al;refine(O 6)<|Lb ((k+1),(n+5),w9) ?_;refine C _ w7 w9 ?_ (Bf.refl _) a0 al;apply d;grind
        .refine HM Z Z ?_;refine HM Z Z ?_;refine HM Z Z ?_;refine HM Z Z ?_;refine OW.val Z Z (Jq Z Z) ?_;refine OW.val Z Z (EX.move Z) ?_;refine HM Z Z ?_;refine HM Z Z ?_;refine HM Z Z ?_;refine HM Z Z ?_;refine HM Z Z ?_;refine OW.val Z Z (Jq Z Z) ?_;refine OW.val Z Z (PP (pl:=[(0,1),(1,1),(2,1)]) (ks:=[0,1,2]) (is:=[0,1,2]) (zs:=[U 0,.slice Aa 0 0,.bool Aj]) underlying139 LK Be Z Z Z (by first|rfl|(simp only[HF,HG,HB,Ig,Bool.and_eq_true,Value.oneCell'];repeat (first|assumption|exact Bo.one Ce|constructor))) (by simp only[KN,Ko,Kn];rfl)) ?_;refine OW.val Z Z (PR underlying140 LK Z Z X) ?_;refine Ug Z LK Z Z Z (by first|rfl|(simp only[HF,HG,HB,Ig,Bool.and_eq_true,Value.oneCell'];repeat (first|assumption|exact Bo.one Ce|constructor))) (T) Bx ?_;rintro w9 a0 al;refine(O 6)<|Lb ((k+1),(n+5),w9) ?_;refine C _ w7 w9 ?_ (Bf.refl _) a0 al;apply d;grind
     .obtain rfl:k=2:=X;refine(O 1∘Lm wr) ?_;refine⟨?_,ab,g⟩;have:n=Mv D:=by rw[hn];unfold Mv;simp
      grind
   .rintro wr⟨f,ab,g⟩;obtain⟨Q,v0,r0,P,v1,W,T,a7,a6⟩:=g;have a4:=a7.2.1 Bc;have a3:=a6.2.1 Bc;have d2:=a7.1;have d1:=a6.1;refine(O 1)<|Lc (fun((V,a,c):Ad×Y×Y)=>(Bf wr V/\Bk V a 139 [U Q,v0,.bool r0]/\Bk V c 139 [U P,v1,.bool W],[(14,.pointer (J ⟨a,0,Aa⟩)),(15,.pointer (J ⟨c,0,Aa⟩))],V)) ?_ ?_
    .have d0:wr.drew.heap.size=wr.heap.size:=rfl;have cg:Bk wr.drew L 140 [U Q,v0,.bool r0,U P,v1,.bool W]:=T.ext (Bf.drew wr);refine(Yr 8 (fun w'=>Bk w' L 140 [U Q,v0,.bool r0,U P,v1,.bool W]) cg) fun p=>(Gv [0]∘Yw 1 (he:=by exact fun _ b3=>Dr [U Q,v0,.bool r0] (ej b3 (o:=0) (l2:=[U Q,v0,.bool r0]) Z))∘Gv [2]∘Yw 3 (he:=by exact fun _ b3=>Dr [U P,v1,.bool W] (ej b3 (o:=3) (l2:=[U P,v1,.bool W]) Z)))<|Ye 4 5 ?_ ?_
     .refine(Jn 4) ?_;rintro ba x1 cz ai m;refine⟨p.ext m,fun p=>?_⟩;refine(Yn 5) ?_;rintro bc x2 cx a8 t;refine⟨p.ext t,fun p=>?_⟩;have G:ba≠bc:=by have:=ai.lt;omega
      have ch:=ai.ext t;have cm:=m.size;have cl:=t.size;refine(Ys 6 ch) ?_;rintro x3 bx A;refine⟨p.mo A (by simp;exact p.ne ch Bc),fun p=>?_⟩;have ao:=a8.mo A (by simp;exact fun z=>G z.symm);have ck:=A.size;refine(Ys 7 ao) ?_;rintro x4 bs x;refine⟨p.mo x (by simp;exact p.ne ao Bc),fun p=>?_⟩;refine(Yd) ?_;have cj:=x.size;refine(Lm (x4,ba,bc)) ?_;have b0:Mo wr x4 [ba,bc]:=(((((Mo.Agk (Bf.drew wr) _).trans (Mo.Agk m _)).trans (Mo.Agk t _)).trans (A.mono Bi)).trans (x.mono Bi));exact⟨(Mo.fresh (S':=[]) b0 (fun q hq a9=>by simp at hq;rcases hq with rfl|rfl<;>omega)).ext,bx.mo x (by simp;exact G),bs⟩
     .refine(Jn 5) ?_;rintro bc x1 cz ai m;refine⟨p.ext m,fun p=>?_⟩;refine(Yn 4) ?_;rintro ba x2 cx a8 t;refine⟨p.ext t,fun p=>?_⟩;have G:ba≠bc:=by have:=ai.lt;omega
      have c0:=ai.ext t;have cm:=m.size;have cl:=t.size;refine(Ys 6 a8) ?_;rintro x3 bx A;refine⟨p.mo A (by simp;exact p.ne a8 Bc),fun p=>?_⟩;have ao:=c0.mo A (by simp;exact fun z=>G z.symm);have ck:=A.size;refine(Ys 7 ao) ?_;rintro x4 bs x;refine⟨p.mo x (by simp;exact p.ne ao Bc),fun p=>?_⟩;refine(Yd) ?_;have cj:=x.size;refine(Lm (x4,ba,bc)) ?_;have b0:Mo wr x4 [ba,bc]:=(((((Mo.Agk (Bf.drew wr) _).trans (Mo.Agk m _)).trans (Mo.Agk t _)).trans (A.mono Bi)).trans (x.mono Bi));exact⟨(Mo.fresh (S':=[]) b0 (fun q hq a9=>by simp at hq;rcases hq with rfl|rfl<;>omega)).ext,bx.mo x (by simp;exact G),bs⟩
    .rintro⟨V,a,c⟩⟨I,ha,hc⟩;have C:∀w',Bf wr w'->Cm w' B b (Dh D (Mv D))/\Tm w w' B Cj:=fun w' q=>⟨f.at_.ext q,ab.trans (Tm.Agk q _ _)⟩;have s0:r0=Af->DQ D 0=J (Q,(CB (Cv D 0)).2.1):=fun q=>by unfold DQ;rw[Ai (a4.right.1 q),a4.gen q]
     have s1:W=Af->DQ D 1=J (P,(CB (Cv D 1)).2.1):=fun q=>by unfold DQ;rw[Ai (a3.right.1 q),a3.gen q]
     have n0:r0=Aj->DQ D 0=Aa:=fun q=>by unfold DQ;rw[Ag (fun z=>by have:=a4.right.2 z;rw[q]at this;cases this)]
     have n1:W=Aj->DQ D 1=Aa:=fun q=>by unfold DQ;rw[Ag (fun z=>by have:=a3.right.2 z;rw[q]at this;cases this)]
     have o0:=a4.own;have o1:=a3.own;rcases Bool.eq_false_or_eq_true r0 with rfl|rfl<;>rcases Bool.eq_false_or_eq_true W with rfl|rfl
     .rw[s0 Z,s1 Z];refine(O 20)<|Zi (fun cw=>?_) fun cw=>?_
      .have e:Uq (J (Q,(CB (Cv D 0)).2.1)) (J (P,(CB (Cv D 1)).2.1))=(Q,(CB (Cv D 0)).2.1,0):=Ai (show P<Q by omega);rw[e];refine(O 3∘Zq (by exact fun _=>Bp (ha.drewN _))∘O 1∘Zq (by exact fun _=>Bp (ha.drewN _))∘O 3∘QW.nil) fun nq=>(CT) ?_;exact⟨⟨_,Z,((o0 Z).ext I).ext (Bf.drewN _ _)⟩,C _ (I.trans (Bf.drewN _ _))⟩
      .have e:Uq (J (Q,(CB (Cv D 0)).2.1)) (J (P,(CB (Cv D 1)).2.1))=(P,(CB (Cv D 1)).2.1,0):=Ag (show ¬P<Q by omega);rw[e];refine(O 10∘Zq (by exact fun _=>Bp (hc.drewN _))∘O 1∘Zq (by exact fun _=>Bp (hc.drewN _))∘O 3∘QW.nil) fun nq=>(CT) ?_;exact⟨⟨_,Z,((o1 Z).ext I).ext (Bf.drewN _ _)⟩,C _ (I.trans (Bf.drewN _ _))⟩
     .rw[s0 Z,n1 Z];refine(O 24∘Zq (by exact fun _=>Bp (ha.drewN _))∘O 1∘Zq (by exact fun _=>Bp (ha.drewN _))∘O 3∘QW.nil) fun nq=>(CT) ?_;exact⟨⟨_,Z,((o0 Z).ext I).ext (Bf.drewN _ _)⟩,C _ (I.trans (Bf.drewN _ _))⟩
     .rw[n0 Z,s1 Z];refine(O 31∘Zq (by exact fun _=>Bp (hc.drewN _))∘O 1∘Zq (by exact fun _=>Bp (hc.drewN _))∘O 3∘QW.nil) fun nq=>(CT) ?_;exact⟨⟨_,Z,((o1 Z).ext I).ext (Bf.drewN _ _)⟩,C _ (I.trans (Bf.drewN _ _))⟩
     .rw[n0 Z,n1 Z];refine(O 36∘CT) ?_;exact⟨⟨_,Z,Bo.nil _ _ _ _⟩,C _ I⟩
end
section
attribute [local irreducible] OW KW QW EX GW NV
open Rec Pth Dsk Wal
def _root_.Go.Proofs.YtkmlafmjaeeanaaGreatDoor.Wal.Nt.cells(n:Nt):Bm:=U n.kind::n.mem.cells
abbrev CP(l:Ae Nt):Bm:=l.flatMap Nt.cells
def Ve(l:Ae Nt):Ajb (CP l)=Ajb l*6:=by
 induction l with
 |nil=>rfl
 |cons p l ih=>simp only[CP,FZ,BA]at ih ⊢;rw[ih];simp[Nt.cells,M.cells];omega
def yk(l:Ae Nt):∀u∈CP l,u.oneCell'=Af:=by
 intro u a;obtain⟨p,_,h⟩:=Ov.1 a;simp only[Nt.cells,M.cells,List.mem_cons,List.not_mem_nil,or_false]at h;rcases h with rfl|rfl|rfl|rfl|rfl|rfl<;>rfl
def Bk.part{w:Ad}{b:Y}{T:Ay}{l l2:Bm}{o:Y}(h:Bk w b T l)(e:(l.drop o).take (Ajb l2)=l2):∀j u,l2[j]? =J u->w.cell? ⟨b,o+j,Aa⟩=J u:=by
 intro j u a;apply h.cell_of;grind
def xA(a b:M):([decide (a.path=b.path),decide (a.start=b.start),decide (a.sectors=b.sectors),decide (a.size=b.size),decide ((a.sum:H)=(b.sum:H))].all id)=decide (a=b):=by
 obtain⟨m,l,k,j,i⟩:=a;obtain⟨h,g,f,e,d⟩:=b;grind
def XM{m:M}:IX ⟨1,m⟩=if Ds m then J (Et m)else Aa:=by rfl
def UC{m:M}:IX ⟨2,m⟩=if Cw m.path=0/\m=bare m.path then J m.path else Aa:=by rfl
def data3{k:H}{m:M}(h1:k≠1)(a:k≠2):IX ⟨k,m⟩=Aa:=by unfold IX;grind
def km{n:Nt}{s:Bh}(h:IX n=J s):CJ n/\Hj n=s:=by
 refine⟨?_,?_⟩
 .unfold CJ;grind
 .unfold Hj;grind
def kj{n:Nt}(h:IX n=Aa):¬CJ n:=by unfold CJ;grind
def Se(n:Nt)(v:Ah):Prop:=∃s,v=.tuple #[Bl s,.bool (decide (CJ n))]/\(CJ n->s=Hj n)
def oj{n:Nt}{s:Bh}(h:IX n=J s):Se n (.tuple #[Bl s,.bool Af]):=⟨s,by rw[AL (km h).1],fun _=>(km h).2.symm⟩
def VV{n:Nt}(s:Bh)(h:IX n=Aa):Se n (.tuple #[Bl s,.bool Aj]):=⟨s,by rw[AN (kj h)],fun q=>absurd q (kj h)⟩
def sM(n:Nt)(G:n.mem.Ok)(w:Ad):Bn prog 112 [.agg n.cells.toArray] w fun v w'=>Se n v/\Bf w w':=by
 obtain⟨l,m⟩:=n;have i:m.Ok:=G;refine Bw func112 Z ntmps112 Be Z ?_;refine(O 2) ?_;refine Dz Z Z Z ?_;rintro nb t E d f;refine(O 7) ?_;replace d:Bk t nb 116 (Nt.cells ⟨l,m⟩):=d;have p:=d.part (o:=1) (l2:=m.cells) Z;refine(O 8)<|Zi (fun C=>?_) fun C=>?_
 .have k:l=1:=C;subst k;refine(O 3∘Zv (Dr m.cells p)∘Zc (ky m i t)) ?_;rintro _ D⟨rfl,a⟩;refine(O 14∘BG) ?_;refine⟨?_,f.trans a⟩;by_cases h:Ds m
  .rw[kr h];exact oj (by rw[XM,Ai h])
  .rw[kq h];exact VV _ (by rw[XM,Ag h])
 .have k:¬l=1:=C;refine(O 5)<|Zi (fun B=>?_) fun B=>?_
  .have j:l=2:=B;subst j;refine(O 8) ?_;by_cases x:Cw m.path=0
   .have r:=OF m.path i.path;rw[x]at r;refine(Yr 13 (fun w'=>Bf w w'/\Bk w' nb 116 (Nt.cells ⟨2,m⟩)) ⟨f.trans (Bf.drew _),d.drew⟩) fun g=>(Gv [0,1]∘Yc 2 (r t.drew)) ?_;rintro _ D⟨rfl,a⟩;refine⟨⟨g.1.trans a,g.2.ext a⟩,fun g=>?_⟩;refine(Gv [3,4]∘Zga 29 (e:=Z)∘Gv [5]∘Yw 6 (he:=by exact fun _ A=>Dr m.cells (A.2.part (o:=1) (l2:=m.cells) Z))∘Gv [7,8]∘Yw 9 (he:=by exact fun _ _=>Tx underlying60 Be Be Z Z (.cons Bc underlying9 Z Z Z (QF underlying9) (.cons Bc underlying3 Z Z Z (Lw underlying3) (.cons Bc underlying3 Z Z Z (Lw underlying3) (.cons Bc underlying3 Z Z Z (Lw underlying3) (.cons Bc underlying58 Z Z Z (Lw underlying58) .nil))))) Z)∘Gv [10,11,12]∘Yd∘BG) ?_;refine⟨?_,g.1⟩;have e:=xA m (bare m.path);by_cases h:m=bare m.path
    .rw[AL h]at e;refine(Av (Se ⟨2,m⟩) ?_).mpr (oj (s:=m.path) (by rw[UC,Ai ⟨x,h⟩]));exact Av (fun q=>Value.tuple #[Bl m.path,.bool q]) e
    .rw[AN h]at e;refine(Av (Se ⟨2,m⟩) ?_).mpr (VV m.path (by rw[UC,Ag (fun q=>h q.2)]));exact Av (fun q=>Value.tuple #[Bl m.path,.bool q]) e
   .have y:Cw m.path=140:=(Uv _).resolve_left x;have r:=OF m.path i.path;rw[y]at r;refine(Yr 13 (fun w'=>Bf w w'/\Bk w' nb 116 (Nt.cells ⟨2,m⟩)) ⟨f.trans (Bf.drew _),d.drew⟩) fun g=>(Gv [0,1]∘Yc 2 (r t.drew)) ?_;rintro _ D⟨rfl,a⟩;refine⟨⟨g.1.trans a,g.2.ext a⟩,fun g=>?_⟩;refine(Gv [3,4]∘Nl 29∘Gv [5,6,7,8,9,10,11,12]∘Yd∘BG) ?_;exact⟨VV m.path (by rw[UC,Ag (fun q=>x q.1)]),g.1⟩
  .have j:¬l=2:=B;refine(O 7∘BG) ?_;exact⟨VV [] (data3 k j),f⟩
end

section
attribute [local irreducible] OW KW QW EX GW NV
open Rec Pth Dsk Wal
def yc{g i:H}{d:Bh}:FK ⟨1,g,i,d⟩=if(ED (Ajb d+1) d []).2=0/\Ajb (ED (Ajb d+1) d []).1=1 then J ⟨1,(ED (Ajb d+1) d []).1.getD 0 (bare [])⟩else Aa:=by
 rfl
def yd{g i:H}{d:Bh}:FK ⟨2,g,i,d⟩=if Cw d=0 then J ⟨2,bare d⟩else Aa:=by
 rfl
def ye{k:Y}{g i:H}{d:Bh}(h1:k≠1)(a:k≠2):FK ⟨k,g,i,d⟩=Aa:=by
 unfold FK;grind
def yh(x:R)(hk:x.kind<=255)(hd:Ajb x.data<=1000)(w:Ad):Bn prog 78 [.agg x.cells.toArray] w fun v w'=>(∃n:Nt,v=.tuple #[.agg n.cells.toArray,.bool (FK x).isSome]/\∀n',FK x=J n'->n'=n)/\Bf w w':=by
 obtain⟨r,g,B,d⟩:=x;have a5:r<=255:=hk;have a6:Ajb d<=1000:=hd;have T:∀n:Nt,FK ⟨r,g,B,d⟩=J n->∃n0:Nt,Value.tuple #[.agg n.cells.toArray,.bool Af]=.tuple #[.agg n0.cells.toArray,.bool (FK ⟨r,g,B,d⟩).isSome]/\∀n',FK ⟨r,g,B,d⟩=J n'->n'=n0:=fun n h=>⟨n,by rw[h];rfl,fun n' h'=>by grind⟩;have no:FK ⟨r,g,B,d⟩=Aa->∃n0:Nt,Value.tuple #[.agg (Li (Nt.cells ⟨0,bare []⟩)),.bool Aj]=.tuple #[.agg n0.cells.toArray,.bool (FK ⟨r,g,B,d⟩).isSome]/\∀n',FK ⟨r,g,B,d⟩=J n'->n'=n0:=fun h=>⟨⟨0,bare []⟩,by rw[h];rfl,fun n' h'=>by grind⟩;refine Bw func78 Z ntmps78 Be Z ?_;refine(O 2) ?_;refine Dz Z Z Z ?_;rintro xb w1 a4 P ab;replace P:Bk w1 xb 144 (R.cells ⟨r,g,B,d⟩):=P;refine(Zn) ?_;rintro rb w2 a3 G W;refine(O 5) ?_;have aj:=P.ext W;refine(O 3∘Zn) ?_;rintro nb w3 a2 ao D;refine(Zs ao (hlt:=Bv _)) ?_;rintro w4 ai L;refine(O 5) ?_;have x2:=ab.trans W;have x3:=x2.trans D;have x4:Bf w w4:=Bu x3 L x3.size (fun k hk=>by simp at hk;have:=x2.size;omega);have a1:=(aj.ext D).mo L (by simp;have:=aj.lt;omega);have E:=(G.ext D).mo L (by simp;have:=G.lt;omega);have af:nb≠rb:=by have:=G.lt;omega
 have z1:=ab.size;have z2:=x2.size;refine(O 8)<|Zi (fun h1=>?_) fun h1=>?_
 .have S:r=1:=X;subst S;refine(O 4∘Zc (kz d X w4)) ?_;rintro _ w5⟨vs,rfl,C,f⟩;refine(O 8) ?_;have e1:=yc (g:=g) (i:=B) (d:=d);have q:=E.ext f;have I:=ai.ext f;have t:=x4.trans f;generalize(ED (Ajb d+1) d []).2=er at e1;generalize(ED (Ajb d+1) d []).1=l at C e1;obtain⟨A,c,rfl,_,al⟩:=C.slice;refine(O 4)<|Zd 24 (fun q1=>?_) fun q1=>?_
  .refine(O 9∘Zs q (hlt:=Bv _)) ?_;rintro y e a;refine(O 2∘DA e) ?_;exact⟨no Bg,Bu t a t.size (fun k hk=>by simp at hk;omega)⟩
  .refine(O 5)<|Zi (fun q2=>?_) fun q2=>?_
   .refine(O 3∘Zs q (hlt:=Bv _)) ?_;rintro y e a;refine(O 2∘DA e) ?_;exact⟨no Bg,Bu t a t.size (fun k hk=>by simp at hk;omega)⟩
   .have a0:Ajb l=1:=X;obtain⟨m,rfl⟩:=List.length_eq_one_iff.1 a0;obtain⟨b,o,rfl,_,N⟩:=Sl.flat (cells:=M.cells) al (c:=5) (fun _=>rfl) Bi (Nat.zero_lt_succ _:0<Ajb [m]);refine(O 4∘Zv (Dr m.cells N)∘O 1∘Zs I (hlt:=Bv _)) ?_;rintro y p a;refine(O 4) ?_;replace p:Bk y nb 116 (Nt.cells ⟨1,m⟩):=p;have e:=q.mo a (by simp;exact af.symm);have V:Bf w y:=Bu t a t.size (fun k hk=>by simp at hk;omega);refine(Zv (BW p)∘Zs e (hlt:=Bv _)) ?_;rintro w7 j K;refine(O 2) ?_;replace j:Bk w7 rb 116 (Nt.cells ⟨1,m⟩):=j;refine(DA j) ?_;exact⟨T _ Bg,Bu V K V.size (fun k hk=>by simp at hk;omega)⟩
 .have S:¬r=1:=X;refine(O 5)<|Zi (fun h2=>?_) fun h2=>?_
  .have Q:r=2:=X;subst Q;have e2:=yd (g:=g) (i:=B) (d:=d);have a7:=Uv d;refine(O 5∘Zc (OF d X w4)) ?_;rintro _ w5⟨rfl,f⟩;refine(O 2) ?_;have q:=E.ext f;have I:=ai.ext f;have a8:=a1.ext f;have t:=x4.trans f;refine Zi (fun q1=>?_) fun q1=>?_
   .refine(O 3∘Zs q (hlt:=Bv _)) ?_;rintro y e a;refine(O 2∘DA e) ?_;exact⟨no Bg,Bu t a t.size (fun k hk=>by simp at hk;omega)⟩
   .refine(O 6∘Zt I) ?_;rintro y p a;refine(O 4) ?_;replace p:Bk y nb 116 (Nt.cells ⟨2,bare d⟩):=p;have e:=q.mo a (by simp;exact af.symm);have V:Bf w y:=Bu t a t.size (fun k hk=>by simp at hk;omega);refine(Zv (BW p)∘Zs e (hlt:=Bv _)) ?_;rintro w7 j K;refine(O 2) ?_;replace j:Bk w7 rb 116 (Nt.cells ⟨2,bare d⟩):=j;refine(DA j) ?_;exact⟨T _ Bg,Bu V K V.size (fun k hk=>by simp at hk;omega)⟩
  .have Q:¬r=2:=X;refine(O 3∘Zs E (hlt:=Bv _)) ?_;rintro y e a;refine(O 2∘DA e) ?_;exact⟨no (ye S Q),Bu x4 a x4.size (fun k hk=>by simp at hk;omega)⟩
def mh(gen:H)(w:Ad):Bn prog 76 [U gen] w fun v w'=>v=.bool (decide (¬JD gen))/\w=w':=by
 refine Bw func76 Z ntmps76 (by rfl) Z ?_;refine(O 9)<|Zd 5 (fun a=>?_) fun a=>?_
 .refine(O 5∘Br) ?_;refine⟨Av Value.bool (decide_eq_decide.2 ?_),Z⟩;unfold JD;omega
 .refine(O 5∘Br) ?_;refine⟨Av Value.bool (AN ?_).symm,Z⟩;unfold JD;omega
def yb{n:Nt}(h:CJ n):n.kind=1∨n.kind=2:=(SL h).2
def qS{D:Dv}(hD:D.Ok){k:Y}(bc:Sm D k)(hk:k<=900000000)(B b:Y)(gen at_:H)(g0:-9223372036854775808<=gen)(g1:gen<=9223372036854775807)(a0:-9223372036854775808<=at_)(a1:at_<=9223372036854775807)(l:Ae Nt)(hl:Ajb l<=140737488355328)(bl:∀n∈l,n.mem.Ok)(A:Aw AC)(c C:Y)(w:Ad)(h:Cm w B b D)(hs:Sl w C A (CP l)):
 Bn prog 87 [.pointer (J ⟨b,0,Aa⟩),U gen,U at_,.slice A (Ajb l) c] w fun v w'=>v=.tuple #[U (Fs D gen at_ l).2.1,U (((Fs D gen at_ l).2.2:Y):H)]/\Cm w' B b (Fs D gen at_ l).1/\Tm w w' B Cj:=by
 have b6:=hD.cap
 have I:∀w',Bf w w'->(Io gen at_ (Ajb l)∨∃n∈l,¬CJ n)->(Value.tuple #[U 0,U 210]=.tuple #[U (Fs D gen at_ l).2.1,U (((Fs D gen at_ l).2.2:Y):H)]/\Cm w' B b (Fs D gen at_ l).1/\Tm w w' B Cj):=fun w' N q=>by
  rw[qR q];exact⟨Z,h.ext N,Tm.Agk N _ _⟩
 refine Bw func87 Z ntmps87 (by rfl) Z ?_;refine(O 9∘Zc (Ht h hD)) ?_;rintro _ _⟨rfl,rfl⟩;refine(O 2)<|Zi (fun h0=>?_) fun h0=>?_
 .omega
 .refine(O 5∘Zc (mh gen w)) ?_;rintro _ _⟨rfl,rfl⟩;refine(O 2)<|Zd 29 (fun b0=>?_) fun b0=>?_
  .refine(O 26∘BG) ?_;exact I _ (Bf.refl _) (.inl (by unfold JD at b0;unfold Io;omega))
  .unfold JD at b0;refine(O 4)<|Zd 33 (fun b1=>?_) fun b1=>?_
   .refine(O 22∘BG) ?_;exact I _ (Bf.refl _) (.inl (by unfold Io;omega))
   .refine(O 4)<|Zd 37 (fun b2=>?_) fun b2=>?_
    .refine(O 18∘BG) ?_;exact I _ (Bf.refl _) (.inl (by unfold Io;omega))
    .refine(O 5)<|Zd 42 (fun b3=>?_) fun b3=>?_
     .refine(O 13∘BG) ?_;exact I _ (Bf.refl _) (.inl (by unfold Io;omega))
     .refine(O 7)<|Zi (fun b4=>?_) fun b4=>?_
      .refine(O 5∘BG) ?_;exact I _ (Bf.refl _) (.inl (by unfold Io;omega))
      .obtain⟨a,rfl⟩:=EY (show 0<=at_ by omega);obtain⟨g,rfl⟩:=EY (show 0<=gen by omega);have nb:¬Io (g:H) (a:H) (Ajb l):=by unfold Io;omega
       refine(O 12)<|Lc (fun((v,wr):Ah×Ad)=>((∀n∈l,CJ n)/\Bo wr w.heap.size 9 1 v (Ajb l) ((Gx g a l).map Bl)/\Bf w wr,[(0,.pointer (J ⟨b,0,Aa⟩)),(1,U g),(2,U a),(3,.slice A (Ajb l) c),(10,v)],wr)) ?_ ?_
       .refine(O 1)<|Lo (fun((i,v,wr):Y×Ah×Ad)=>(i<=Ajb l/\(∀n∈l.take i,CJ n)/\Bo wr w.heap.size 9 1 v i ((Gx g a (l.take i)).map Bl)/\Bf w wr,[(0,.pointer (J ⟨b,0,Aa⟩)),(1,U g),(2,U a),(3,.slice A (Ajb l) c),(10,v),(49,.slice A (Ajb l) c),(50,U ((Ajb l:Y):H)),(51,U i)],wr,Ajb l-i)) (0,(.slice Aa 0 0),w) ?_ ?_
        .exact⟨X,Bi,Bo.nil _ _ _ _,Bf.refl _⟩
        .rintro⟨i,v,wr⟩⟨hi,y,p,N⟩;refine(O 5)<|Zi (fun t=>?_) fun t=>?_
         .obtain⟨bb,o,rfl,_,m⟩:=(hs.ext N).flat (c:=6) (fun _=>rfl) Bc t;have al:l.take (i+1)=l.take i++[l[i]]:=(CS t).symm;have a3:=bl l[i] (BM t);have a6:l[i]∈l:=BM t;have a5:Ajb (l.take i)=i:=by rw[BZ];omega
          have a2:Gx g a (l.take (i+1))=Gx g a (l.take i)++[text (l[i]).kind.toNat g (a+i) (Hj l[i])]:=by rw[al,ma,a5]
          generalize l[i]=n at a3 a6 m al a2;refine(O 7∘Zv (Dr n.cells m)∘Zn) ?_;rintro pb w1 a7 bi G;refine(O 1∘Zs bi (hlt:=Bv _)) ?_;rintro w2 Q a4;refine(O 3) ?_;replace Q:Bk w2 pb 116 n.cells:=Q;have x2:Bf w w2:=Bu (N.trans G) a4 (N.trans G).size (fun k hk=>by simp at hk;have:=N.size;omega);refine(Zv (BW Q)∘Zc (sM n a3 w2)) ?_;rintro _ w3⟨⟨s,rfl,bf⟩,x⟩;refine(O 12)<|Zi (fun e=>?_) fun e=>?_
          .refine(O 5∘BG) ?_;exact I _ (x2.trans x) (.inr ⟨n,a6,e⟩)
          .have e:CJ n:=Dk.1 e;obtain rfl:=bf e;have b9:=yb e;have b8:=(SL e).1;have bh:=Q.ext x;have x3:=x2.trans x;have d:=((p.ext G).mo a4 (fun k hk=>by simp;have:=p.lt k hk;omega)).ext x;obtain⟨kd,W⟩:=EY (show 0<=n.kind by omega);have ca:1<=kd/\kd<=255:=X;have bx:Bk w3 pb 116 (U (kd:H)::n.mem.cells):=by rw[<-W];exact bh
           have e1:ER kd (g:H) ((a+i:Y):H) (Hj n)=(text n.kind.toNat g (a+i) (Hj n),0):=by
            unfold ER;rw[Ag (by unfold bad;omega),W];rfl
           have ce:=UJ kd X (g:H) ((a+i:Y):H) (Hj n) X w3;rw[e1]at ce;refine(O 11∘Zc ce) ?_;rintro _ w4⟨rfl,ai⟩;refine(O 9∘He (x3.trans ai) (d.ext ai)) ?_;rintro _ v5 w5 bj b7 _ _;refine(O 7)<|Lb ((i+1),v5,w5) ?_;grind
         .obtain rfl:i=Ajb l:=X;rw[DV]at y p;refine(O 1∘Lm (v,wr)) ?_;grind
       .rintro⟨v,wr⟩⟨y,p,N⟩;have b5:Ajb l<=19:=X;have cb:g<=4611686018427387904:=X
        have ec:ER 3 (g:H) ((a+Ajb l:Y):H) [BU (Ajb l)]=(text 3 g (a+Ajb l) [BU (Ajb l)],0):=by
         unfold ER;rw[Ag (by unfold bad;grind)];rfl
        have el:Fs D (g:H) (a:H) l=(let r:=writes D (10+a) (txs g a l);if r.2=0 then(if r.1.sync.2=0 then(r.1.sync.1,(a:H)+Ajb l+1,0)else(r.1.sync.1,0,r.1.sync.2))else(r.1,0,r.2)):=dP nb y;have V:=VW (g:=g) (i:=a) y;have bm:=IE g a l;have a8:Gx g a l++[text 3 g (a+Ajb l) [BU (Ajb l)]]=txs g a l:=rfl;generalize txs g a l=T at el V bm a8;refine(O 10) ?_;refine Ku 1 Z Z underlying23 CE Z Z Z Z (by rfl) Bc ?_;rintro sb w1 a7 bq G;refine(Zv (Eb (QU bq X))) ?_;have ce:=UJ 3 X (g:H) ((a+Ajb l:Y):H) [BU (Ajb l)] Bi w1;rw[ec]at ce;refine(Zc ce) ?_;rintro _ w2⟨rfl,aj⟩;refine(O 11) ?_;have x2:=(N.trans G).trans aj;have es:(Gx g a l).map Bl++[Bl (text 3 g (a+Ajb l) [BU (Ajb l)])]=T.map Bl:=by rw[<-a8,DT];rfl
        refine(He x2 ((p.ext G).ext aj)) ?_;rintro _ v3 w3 d x _ _;replace d:Bo w3 w.heap.size 9 1 v3 (Ajb l+1) ((Gx g a l).map Bl++[Bl (text 3 g (a+Ajb l) [BU (Ajb l)])]):=d;rw[es]at d;obtain⟨A3,c3,rfl,cc,_⟩:=d.slice;refine(O 4)<|Lo (fun((i,E,wr):Y×Dv×Ad)=>(i<=Ajb l+1/\E.Ok/\Sm E (k+i)/\writes E (10+a+i) (T.drop i)=writes D (10+a) T/\Cm wr B b E/\Tm w wr B Cj/\Bo wr w.heap.size 9 1 (.slice A3 (Ajb l+1) c3) (Ajb l+1) (T.map Bl),[(0,.pointer (J ⟨b,0,Aa⟩)),(2,U a),(3,.slice A (Ajb l) c),(97,.slice A3 (Ajb l+1) c3),(98,U (((Ajb l+1):Y):H)),(99,U i)],wr,Ajb l+1-i)) (0,D,w3) ?_ ?_
        .exact⟨X,hD,bc,Z,h.ext x,Tm.Agk x _ _,d⟩
        .rintro⟨i,E,wr⟩⟨hi,hE,af,S,ab,P,K⟩;refine(O 5)<|Zi (fun t=>?_) fun t=>?_
         .have L:i<Ajb T:=X;have bn:T.drop i=T[i]::T.drop (i+1):=DE L;have bs:=V T[i] (BM L);have a9:(T.map Bl)[i]? =J (Bl T[i]):=by rw[Eh,BR L];rfl
          rw[bn,Tt]at S;generalize T[i]=s at S bs a9;obtain⟨A4,c4,e4,_,ao⟩:=K.slice;cases e4;obtain⟨bb,o,rfl,_,m⟩:=ao.at_ Bg;refine(O 7∘Zv (Ca (m i _ a9))∘O 11) ?_;have cw:=Wa ab hE (af.small X) ((10+a+i:Y):H) X X s X;refine(Zc cw) ?_;rintro _ w5⟨rfl,f,j⟩;refine(O 7)<|Zi (fun he=>?_) fun he=>?_
          .rw[Ag X]at S;refine(O 6∘BG) ?_;rw[el,<-S];simp only;rw[Ag X];exact⟨Z,f,P.trans j⟩
          .rw[Ai X]at S;refine(O 6)<|Lb ((i+1),((E.write ((10+a+i:Y):H) s).1),w5) ?_;exact⟨X,PI hE _ _,Rx af _ _,S,f,P.trans j,j.own K Bc⟩
         .obtain rfl:i=Ajb l+1:=X;rw[Le X]at S;have ba:writes D (10+a) T=(E,0):=S.symm;rw[ba]at el;simp only[if_true]at el;refine(O 5∘Zc (Tl ab hE (af.small X))) ?_;rintro _ w5⟨rfl,f,j⟩;refine(O 7)<|Zi (fun he=>?_) fun he=>?_
          .rw[Ag X]at el;refine(O 6∘BG) ?_;rw[el];exact⟨Z,f,P.trans j⟩
          .rw[Ai X]at el;refine(O 11∘BG) ?_;rw[el];exact⟨Z,f,P.trans j⟩
end
namespace Wal
open Rec Pth Dsk
def EI(gen:H)(rd:Y->By)(m:Y):Y->Y->Ae Nt->Y
 |0,_,_=>0
 |f+1,i,op=>
  if i<m then
   let x:=Ct (rd i)
   if x.2≠0∨x.1.gen≠gen∨x.1.index≠i then 1
   else if x.1.kind=3 then(if op=[]∨x.1.data≠[BU (Ajb op)]then 1 else EI gen rd m f (i+1) []+1)
   else match FK x.1 with
    |some n=>EI gen rd m f (i+1) (op++[n])+1
    |none=>1
  else 0
def KM(D:Dv)(gen:H):Y:=if JD gen then 0 else if D.dead then 0 else EI gen (fun i=>sec D.now (10+i)) (Ek D.now) 21 0 []
def Fk(D:Dv)(gen:H):Dv:={ D with calls:=D.calls+KM D gen }
def aq(gen:H)(rd:Y->By)(m:Y):∀(f i:Y) (op:Ae Nt),EI gen rd m f i op<=f
 |0,_,_=>Bv _
 |f+1,i,op=>by
  have h1:=aq gen rd m f (i+1) [];rw[EI];split
  .simp only;split
   .omega
   .split
    .grind
    .split
     .rename_i n _;have h2:=aq gen rd m f (i+1) (op++[n]);omega
     .omega
  .omega
def zL(D:Dv)(gen:H):KM D gen<=21:=by
 unfold KM;split
 .omega
 .split
  .omega
  .exact aq _ _ _ _ _ _
def zX{D:Dv}(h:D.Ok)(gen:H):(Fk D gen).Ok:=⟨h.cap,h.kept,h.now,h.keptM,h.nowM,h.pend⟩
def zY{D:Dv}{k:Y}(h:Sm D k)(gen:H):Sm (Fk D gen) (k+21):=
 ⟨by have h1:=h.calls;have h2:=zL D gen;show D.calls+KM D _<=_;omega,by have h1:=h.pend;show Ajb D.pend<=_;omega,h.at_,h.keep⟩
section
variable{gen:H}{rd:Y->By}{m f i:Y}{op:Ae Nt}{out:Ae (Ae Nt)}{b:Y}{x:R}{e:Y}
def rep_0(h:¬i<m):CK gen rd m (f+1) i op out b=(out,b)/\EI gen rd m (f+1) i op=0:=by
 rw[CK,EI,Ag h,Ag h];simp
def rep_1(h:i<m)(hx:Ct (rd i)=(x,e))(a:e≠0∨x.gen≠gen∨x.index≠i):CK gen rd m (f+1) i op out b=(out,b)/\EI gen rd m (f+1) i op=1:=by
 rw[CK,EI,Ai h,Ai h,hx];grind
def rep_2(h:i<m)(hx:Ct (rd i)=(x,e))(g:¬(e≠0∨x.gen≠gen∨x.index≠i))(d:x.kind=3)(a:op=[]∨x.data≠[BU (Ajb op)]):CK gen rd m (f+1) i op out b=(out,b)/\EI gen rd m (f+1) i op=1:=by
 rw[CK,EI,Ai h,Ai h,hx];grind
def rep_3(h:i<m)(hx:Ct (rd i)=(x,e))(g:¬(e≠0∨x.gen≠gen∨x.index≠i))(d:x.kind=3)(a:¬(op=[]∨x.data≠[BU (Ajb op)])):
 CK gen rd m (f+1) i op out b=CK gen rd m f (i+1) [] (out++[op]) (i+1)/\EI gen rd m (f+1) i op=EI gen rd m f (i+1) []+1:=by
 rw[CK,EI,Ai h,Ai h,hx];grind
def rep_4(h:i<m)(hx:Ct (rd i)=(x,e))(g:¬(e≠0∨x.gen≠gen∨x.index≠i))(d:¬x.kind=3)(a:FK x=Aa):CK gen rd m (f+1) i op out b=(out,b)/\EI gen rd m (f+1) i op=1:=by
 rw[CK,EI,Ai h,Ai h,hx];grind
def rep_5{n:Nt}(h:i<m)(hx:Ct (rd i)=(x,e))(g:¬(e≠0∨x.gen≠gen∨x.index≠i))(d:¬x.kind=3)(a:FK x=J n):
 CK gen rd m (f+1) i op out b=CK gen rd m f (i+1) (op++[n]) out b/\EI gen rd m (f+1) i op=EI gen rd m f (i+1) (op++[n])+1:=by
 rw[CK,EI,Ai h,Ai h,hx];grind
end
end Wal
section
attribute [local irreducible] OW KW QW EX GW NV
open Rec Pth Dsk Wal
abbrev Txl:=Ae (Ae Nt)
def HN(w:Ad)(B:Y):Bm->Ae (Ae Nt)->Prop
 |[],[]=>True
 |v::vs,l::ls=>Bo w B 116 6 v (Ajb l) (CP l)/\HN w B vs ls
 |_,_=>False
def HN.len{w:Ad}{B:Y}:∀{vs:Bm} {ls:Ae (Ae Nt)},HN w B vs ls->Ajb vs=Ajb ls
 |[],[],_=>rfl
 |v::vs,l::ls,⟨_,h2⟩=>by simp[HN.len h2]
 |[],_::_,h=>h.elim
 |_::_,[],h=>h.elim
def HN.snoc{w:Ad}{B:Y}:∀{vs:Bm} {ls:Ae (Ae Nt)} {v:Ah} {l:Ae Nt},HN w B vs ls->Bo w B 116 6 v (Ajb l) (CP l)->HN w B (vs++[v]) (ls++[l])
 |[],[],_,_,_,h=>⟨h,AB⟩
 |c::cs,v::vs,_,_,⟨h1,h2⟩,h=>⟨h1,HN.snoc h2 h⟩
 |[],_::_,_,_,h,_=>h.elim
 |_::_,[],_,_,h,_=>h.elim
def HN.mo{w w':Ad}{B:Y}{S:Bj}(hm:Mo w w' S):∀{vs:Bm} {ls:Ae (Ae Nt)},(∀v∈vs,∀k,v.ownBlock=J k->k∉S)->HN w B vs ls->HN w' B vs ls
 |[],[],_,h=>h
 |v::vs,l::ls,hS,⟨h1,h2⟩=>⟨h1.mo hm (hS v Bi),HN.mo hm (fun x hx=>hS x Bg) h2⟩
 |[],_::_,_,h=>h.elim
 |_::_,[],_,h=>h.elim
def HN.ext{w w':Ad}{B:Y}(hx:Bf w w'):∀{vs:Bm} {ls:Ae (Ae Nt)},HN w B vs ls->HN w' B vs ls
 |[],[],h=>h
 |v::vs,l::ls,⟨h1,h2⟩=>⟨h1.ext hx,HN.ext hx h2⟩
 |[],_::_,h=>h.elim
 |_::_,[],h=>h.elim
def HN.tm{w w':Ad}{B C:Y}{p:Ay->Ar}(h:Tm w w' C p)(hp:p 116=Aj):∀{vs:Bm} {ls:Ae (Ae Nt)},HN w B vs ls->HN w' B vs ls
 |[],[],h=>h
 |v::vs,l::ls,⟨h1,h2⟩=>⟨h.own h1 hp,HN.tm h hp h2⟩
 |[],_::_,h=>h.elim
 |_::_,[],h=>h.elim
def HN.lt{w:Ad}{B:Y}:∀{vs:Bm} {ls:Ae (Ae Nt)},HN w B vs ls->∀v∈vs,∀k,v.ownBlock=J k->B<=k/\k<w.heap.size/\∃l,Bk w k 116 l
 |v::vs,l::ls,⟨h1,h2⟩,u,hu,k,hk=>by
  rcases List.mem_cons.1 hu with rfl|hu
  .exact⟨(h1.lt k hk).1,(h1.lt k hk).2,(h1.blkT k hk).2⟩
  .exact HN.lt h2 u hu k hk
 |[],_::_,h,_,_,_,_=>h.elim
 |_::_,[],h,_,_,_,_=>h.elim
 |[],[],_,u,hu,_,_=>by grind
def Cm.tm{w w':Ad}{B b C:Y}{D:Dv}{p:Ay->Ar}(h:Cm w B b D)(t:Tm w w' C p)(p1:p 85=Aj)(a:p 5=Aj)(m:p 137=Aj)(l:p 4=Aj)(k:p 3=Aj)(j:p 9=Aj):Cm w' B b D:=by
 obtain⟨i,g,f,e,d,A,y,x,v,r,q,o,n⟩:=h;exact⟨i,g,f,e,d,A,t.bk y p1,t.own x a,t.own v a,r,t.own q m,o.tm t k j,t.own n l⟩
def sR(s:Bh)(a:Ajb s<=512):(Ct s).1.kind<=255/\(Ct s).1.data.length<=512:=by
 unfold Ct;split
 .refine⟨?_,?_⟩
  .have:=(s.getD 4 0).toNat_lt;show(s.getD 4 0).toNat<=255;omega
  .show Ajb ((s.drop 19).take _)<=512;grind
 .exact⟨Bc,Bc⟩
def Abz(s:Bh)(i:Y):Ajb (sec s i)<=512:=by unfold sec;grind
def vX(s:Bh)(i:Y):i<Ek s↔i<20/\10+i<Ajb s/512:=by unfold Ek;omega
def Wp(w:Ad)(B:Y)(r:Ae (Ae Nt)×Y)(e:Y)(v:Ah):Prop:=
 ∃vt vs,v=.tuple #[vt,U (r.2:H),U (e:H)]/\Bo w B 93 1 vt (Ajb r.1) vs/\HN w B vs r.1
def gW(w:Ad)(B e:Y):Wp w B ([],0) e (.tuple #[.slice Aa 0 0,U 0,U (e:H)]):=⟨_,[],Z,Bo.nil _ _ _ _,AB⟩
def zV{D:Dv}(hD:D.Ok){k:Y}(a1:Sm D k)(hk:k<=900000000)(B b:Y)(gen:H)(w:Ad)(h:Cm w B b D):
 Bn prog 41 [.pointer (J ⟨b,0,Aa⟩),U gen] w fun v w'=>Wp w' w.heap.size (JQ D gen).1 (JQ D gen).2 v/\Cm w' B b (Fk D gen)/\Tm w w' B Cj:=by
 have da:=hD.cap;have E:KM D gen=0->Fk D gen=D:=fun e=>by unfold Fk;simp_all
 refine Bw func41 Z ntmps41 (by rfl) Z ?_;refine(O 11∘Zc (Ht h hD)) ?_;rintro _ _⟨rfl,rfl⟩;refine(O 2)<|Zi (fun h0=>?_) fun h0=>?_
 .omega
 .refine(O 5∘Zc (mh gen w)) ?_;rintro _ _⟨rfl,rfl⟩;refine(O 2)<|Zi (fun hg=>?_) fun hg=>?_
  .have hb:JD gen:=Dk.1 hg;have e1:JQ D gen=(([],0),210):=by unfold JQ;rw[Ai hb]
   have e2:KM D gen=0:=by unfold KM;rw[Ai hb]
   refine(O 6∘CT) ?_;rw[e1,E e2];exact⟨gW _ _ 210,h,Tm.refl _ _ _⟩
  .have hb:¬JD gen:=fun q=>hg (not_not_intro q);refine(O 5∘Zc (Qy h hD)) ?_;rintro _ _⟨rfl,rfl⟩;refine(O 1) ?_;refine HD Z (fun hd=>?_) (fun hd=>?_)
   .have e1:JQ D gen=(([],0),190):=by unfold JQ;rw[Ag hb,hd];rfl
    have e2:KM D gen=0:=by unfold KM;rw[Ag hb,hd];rfl
    refine(O 6∘CT) ?_;rw[e1,E e2];exact⟨gW _ _ 190,h,Tm.refl _ _ _⟩
   .have e1:JQ D gen=(CK gen (fun i=>sec D.now (10+i)) (Ek D.now) 21 0 [] [] 0,0):=by unfold JQ;rw[Ag hb,hd];rfl
    have e2:KM D gen=EI gen (fun i=>sec D.now (10+i)) (Ek D.now) 21 0 []:=by unfold KM;rw[Ag hb,hd];rfl
    generalize hM:Ek D.now=m at e1 e2;have cl:=fun i=>vX D.now i;rw[hM]at cl;have c7:m<=20:=by rw[<-hM];unfold Ek;omega
    generalize hR:(fun i=>sec D.now (10+i))=rd at e1 e2;have cf:∀i,sec D.now (10+i)=rd i:=fun i=>by grind
    have S:∀(wr:Ad) (a:Ae (Ae Nt)) (p j:Y) (G:Ah) (C:Bm),CK gen rd m 21 0 [] [] 0=(a,p)->EI gen rd m 21 0 []=j->Cm wr B b { D with calls:=D.calls+j }->Bo wr w.heap.size 93 1 G (Ajb a) C->HN wr w.heap.size C a->Tm w wr B Cj->(Wp wr w.heap.size (JQ D gen).1 (JQ D gen).2 (.tuple #[G,U (p:H),U 0])/\Cm wr B b (Fk D gen)/\Tm w wr B Cj):=by
     intro wr a p j G C h1 h2 h3 h4 h5 h6;rw[e1,h1];refine⟨⟨G,C,Z,h4,h5⟩,?_,h6⟩;have e:Fk D gen={ D with calls:=D.calls+j }:=by unfold Fk;rw[e2,h2]
     rw[e];exact h3
    refine(O 21)<|Lo (fun((i,o,a,p,vo,G,wr):Y×(Ae Nt)×Txl×Y×Ah×Ah×Ad)=>((i<=20/\p<=20/\Ajb o<=i/\Ajb a<=i/\CK gen rd m 21 0 [] [] 0=CK gen rd m (21-i) i o a p/\EI gen rd m 21 0 []=EI gen rd m (21-i) i o+i/\Cm wr B b { D with calls:=D.calls+i }/\Bo wr w.heap.size 116 6 vo (Ajb o) (CP o)/\Tm w wr B Cj/\∃C,Bo wr w.heap.size 93 1 G (Ajb a) C/\HN wr w.heap.size C a/\(∀k,vo.ownBlock=J k->∀v∈C,v.ownBlock≠J k)),[(0,.pointer (J ⟨b,0,Aa⟩)),(1,U (gen:H)),(7,G),(8,vo),(9,U p),(10,U i)],wr,21-i)) (0,([]),([]),0,(.slice Aa 0 0),(.slice Aa 0 0),w) ?_ ?_
    .exact⟨X,X,Bi,Bi,Z,Z,h,Bo.nil _ _ _ _,Tm.refl _ _ _,[],Bo.nil _ _ _ _,AB,fun k hk=>by simp[Value.ownBlock]at hk⟩
    .rintro⟨i,o,a,p,vo,G,wr⟩⟨hi,dg,df,db,bn,bq,bb,cg,cv,C,ch,cu,c5⟩;have hE:Dv.Ok { D with calls:=D.calls+i }:=⟨hD.cap,hD.kept,hD.now,hD.keptM,hD.nowM,hD.pend⟩;have cw:Sm { D with calls:=D.calls+i } (k+20):=⟨by have:=a1.calls;grind,by have:=a1.pend;grind,a1.at_,a1.keep⟩;obtain⟨f,hf⟩:∃f,21-i=f+1:=⟨20-i,X⟩;have a4:f=21-(i+1):=X;rw[hf]at bn bq
     have c6:¬i<m->(CK gen rd m 21 0 [] [] 0=(a,p)/\EI gen rd m 21 0 []=i):=fun q=>by
      obtain⟨V,T⟩:=rep_0 (gen:=gen) (rd:=rd) (f:=f) (op:=o) (out:=a) (b:=p) q;grind
     refine(O 6)<|Zd 26 (fun c1=>?_) fun c1=>?_
     .refine(O 3∘Zc (Pa bb hE)) ?_;rintro _ _⟨rfl,rfl⟩;refine(O 3)<|Zi (fun c2=>?_) fun c2=>?_
      .have ao:i<m:=(cl i).2 ⟨X,c2⟩
       have er:Dv.read { D with calls:=D.calls+i } ((10+i:Y):H)=({ D with calls:=D.calls+(i+1) },rd i,0):=by
        unfold Dv.read;rw[Ag Bg,Ag X,<-cf];rfl
       have cr:=lV bb hE (cw.small X) ((10+i:Y):H) X X;rw[er]at cr;have cx:Ajb (rd i)<=512:=by rw[<-cf];exact Abz _ _
       refine(O 8∘Zc cr) ?_;rintro _ w5⟨rfl,b1,N⟩;refine(O 12) ?_;have bx:=N.own cg Z;have b0:=N.own ch Z;have cc:=cu.tm N Z;have b6:=cv.trans N;have z5:=b6.size;have cd:=fS (rd i) w5;have b2:=sR (rd i) cx;rcases hde:Ct (rd i)with⟨x,ee⟩;rw[hde]at cd b2
       have stop:(ee≠0∨x.gen≠gen∨x.index≠i)->(CK gen rd m 21 0 [] [] 0=(a,p)/\EI gen rd m 21 0 []=i+1):=fun q=>by
        obtain⟨V,T⟩:=rep_1 (f:=f) (op:=o) (out:=a) (b:=p) ao hde q;grind
       refine(Cb 43 (e:=by simp)∘O 5∘Zc cd) ?_;rintro _ w6⟨rfl,bj⟩;refine(O 3) ?_;have c4:x.kind<=255:=b2.1;have dk:Ajb x.data<=512:=b2.2;refine(Zn) ?_;rintro xb w7 c9 ca cb;refine(Zs ca (hlt:=Bv _)) ?_;rintro w8 b4 cz;refine(O 4) ?_;replace b4:Bk w8 xb 144 x.cells:=b4;have x8:Bf w5 w8:=Bu (bj.trans cb) cz (bj.trans cb).size (fun k hk=>by simp at hk;have:=bj.size;omega);have L:=bx.ext x8;have d:=b0.ext x8;have r:=cc.ext x8;have l:=b1.ext x8;have I:=b6.trans (Tm.Agk x8 B Cj);have z8:=I.size;refine(O 4)<|Zd 52 (fun s1=>?_) fun s1=>?_
       .refine(O 22∘CT) ?_;obtain⟨V,T⟩:=stop (.inl X);exact S w8 a p (i+1) G C V T l d r I
       .refine(O 6)<|Zd 58 (fun s2=>?_) fun s2=>?_
        .refine(O 16∘CT) ?_;obtain⟨V,T⟩:=stop (.inr (.inl s2));exact S w8 a p (i+1) G C V T l d r I
        .refine(O 6)<|Zi (fun s3=>?_) fun s3=>?_
         .refine(O 9∘CT) ?_;obtain⟨V,T⟩:=stop (.inr (.inr s3));exact S w8 a p (i+1) G C V T l d r I
         .have a7:¬(ee≠0∨x.gen≠gen∨x.index≠i):=X;refine(O 9)<|Zi (fun k3=>?_) fun k3=>?_
          .have ai:x.kind=3:=X
           have af:(o=[]∨x.data≠[BU (Ajb o)])->(CK gen rd m 21 0 [] [] 0=(a,p)/\EI gen rd m 21 0 []=i+1):=fun q=>by
            obtain⟨V,T⟩:=rep_2 (f:=f) (op:=o) (out:=a) (b:=p) ao hde a7 ai q;grind
           obtain⟨Ao,co,rfl,_,_⟩:=L.slice;refine(O 7)<|Zd 71 (fun t1=>?_) fun t1=>?_
           .refine(O 20∘CT) ?_;obtain⟨V,T⟩:=af (.inl (Ih X));exact S w8 a p (i+1) G C V T l d r I
           .refine(O 5) ?_;refine Ku 1 Z Z underlying23 CE Z Z Z Z (by rfl) Bc ?_;rintro sb w9 c8 ce t;have bs:=L.ext t;have A:=d.ext t;have a9:=r.ext t;have a0:=l.ext t;have bf:=I.trans (Tm.Agk t B Cj);have z9:=bf.size;refine(Zv (Eb (QU ce X))∘O 3)<|Zi (fun t2=>?_) fun t2=>?_
            .refine(O 9∘CT) ?_;obtain⟨V,T⟩:=af (.inr t2);exact S w9 a p (i+1) G C V T a0 A a9 bf
            .have E:¬(o=[]∨x.data≠[BU (Ajb o)]):=by
              rintro(q|q)
              .grind
              .grind
             obtain⟨r1,r2⟩:=rep_3 (f:=f) (op:=o) (out:=a) (b:=p) ao hde a7 ai E;refine(O 5∘Qp w.heap.size z9 A) ?_;rintro _ ct b5 cn ba c3;refine(O 12) ?_;have bi:=Tm.Agt A ba;have a2:=bi.own bs Bc;have bm:=a9.tm bi Bc;have a6:=a0.tm bi Bc Bc Bc Bc Bc Bc;have b8:=bf.fresh ba (fun k hk=>(A.lt k (FC.1 hk)).1);refine Lb ((i+1),([]),(a++[o]),(i+1),(.slice Aa 0 0:Ah),ct,b5) ?_;refine⟨X,X,Bi,Bx,?_,?_,a6,Bo.nil _ _ _ _,b8,C++[_],?_,bm.snoc a2,fun k hk=>by simp[Value.ownBlock]at hk⟩
             .rw[bn,r1,a4]
             .rw[bq,r2,a4];omega
             .grind
          .have ai:¬x.kind=3:=X;refine(O 3∘Zv (BW b4)∘Zc (yh x c4 X w8)) ?_;rintro _ w9⟨⟨n,rfl,hn⟩,t⟩;refine(O 3∘Zn) ?_;rintro nb b5 c0 cj a8;refine(Zs cj (hlt:=Bv _)) ?_;rintro bc aj ck;refine(O 8) ?_;replace aj:Bk bc nb 116 n.cells:=aj;have W:Bf w8 bc:=Bu (t.trans a8) ck (t.trans a8).size (fun k hk=>by simp at hk;have:=t.size;omega);have y:=L.ext W;have P:=d.ext W;have K:=r.ext W;have Q:=l.ext W;have ab:=I.trans (Tm.Agk W B Cj);have cp:=ab.size;rcases E:FK x with _|n'
           .obtain⟨r1,r2⟩:=rep_4 (f:=f) (op:=o) (out:=a) (b:=p) ao hde a7 ai E;refine(O 10∘CT) ?_;exact S bc a p (i+1) G C Bg X Q P K ab
           .obtain⟨r1,r2⟩:=rep_5 (f:=f) (op:=o) (out:=a) (b:=p) ao hde a7 ai E;obtain rfl:=hn n' E;refine(O 4∘Zv (BW aj)) ?_;refine qy (w.heap.size) Z Z (fun _=>rfl) Z underlying93 MN Z Bc Bc Z Z (fun _=>rfl) (by rfl) (cp) (y) CA X ?_;rintro _ cs cq cm al b3;refine(O 8) ?_;have b9:=Tm.Agt y al;have a3:=b9.own P Bc;have bl:=K.mo al (fun v hv k hk q=>c5 k (FC.1 q) v hv hk);have a5:=Q.tm b9 Bc Bc Bc Bc Bc Bc;have b7:=ab.fresh al (fun k hk=>(y.lt k (FC.1 hk)).1);have en:CP (o++[n'])=CP o++n'.cells:=Bi;refine Lb ((i+1),(o++[n']),a,p,cs,G,cq) ?_;refine⟨X,X,Bx,X,?_,?_,a5,?_,b7,C,a3,bl,?_⟩
            .rw[bn,r1,a4]
            .rw[bq,r2,a4];omega
            .simp;omega
            .intro k hk v hv q;rcases b3 with e|⟨g,e,hg⟩
             .grind
             .rw[e]at hk;cases hk;have:=(K.lt v hv _ q).2.1;omega
      .refine(O 9∘CT) ?_;grind
     .refine(O 17∘CT) ?_;grind
end
section
open Go.MapKept Srt
section
variable{α:Type}
def xB{A:Ae (By×α)}{s p:By}{v u:α}:(p,u)∈Hl A s v↔(p=s/\u=v)∨(p≠s/\(p,u)∈A):=by
 unfold Hl;grind
def xy{A:Ae (By×α)}{s p:By}{u:α}:(p,u)∈IT A s↔p≠s/\(p,u)∈A:=by
 unfold IT;grind
def lO{β:Type}(f:α->β)(A:Ae (By×α))(s:By)(v:α):(Hl A s v).map (fun a=>(a.1,f a.2))=Hl (A.map fun a=>(a.1,f a.2)) s (f v):=by
 unfold Hl;have e:(A.map fun a=>(a.1,f a.2)).map (·.1)=A.map (·.1):=by rw[EO];rfl
 rw[e];split
 .simp only[EO];apply Kj;grind
 .simp
def tu{β:Type}(f:α->β)(A:Ae (By×α))(s:By):(IT A s).map (fun a=>(a.1,f a.2))=IT (A.map fun a=>(a.1,f a.2)) s:=by
 unfold IT;rw[List.filter_map];rfl
def OC(A:Ae (By×α))(m:By->Aw α):Prop:=∀p v,(p,v)∈A↔m p=J v
def OC.nil:OC ([]:Ae (By×α)) Vd:=fun p v=>by simp[Vd]
def OC.put{A:Ae (By×α)}{m:By->Aw α}(h:OC A m)(s:By)(v:α):OC (Hl A s v) (FM m s (J v)):=fun p u=>by
 rw[xB,h];unfold FM;grind
def OC.del{A:Ae (By×α)}{m:By->Aw α}(h:OC A m)(s:By):OC (IT A s) (FM m s Aa):=fun p u=>by
 rw[xy,h];unfold FM;simp
end
structure Seen{α:Type}(enc:α->Ah)(es:Ap MapEntry)(seen:Ap Y)(A V:Ae (By×α)):Prop where
 sub:∀a∈V,a∈A
 nod:(V.map (·.1)).Nodup
 fwd:∀e∈es.toList,e.born∈seen->∃a∈V,e.key=Bl a.1
 bwd:∀a∈V,∃e∈es.toList,e.born∈seen/\e.key=Bl a.1
section
variable{α:Type}{enc:α->Ah}{w:Ad}{b c:Y}{es:Ap MapEntry}{A V:Ae (By×α)}{seen:Ap Y}
def Seen.nil:Seen enc es #[] A []:=⟨Bi,Bi,Bi,Bi⟩
def Seen.next(hm:Mp w b es c (A.map fun a=>(a.1,enc a.2)))(h:Seen enc es seen A V){e:MapEntry}(he:e∈es.toList)(N:e.born∉seen):∃a∈A,e.key=Bl a.1/\e.val=enc a.2/\Seen enc es (seen.push e.born) A (V++[a]):=by
 obtain⟨p,E,K,I⟩:=hm.mem he;obtain⟨a,G,rfl⟩:=Cr.1 E;have k:=hm.st.2.2
 have C:∀g∈es.toList,g.key=e.key->g=e:=fun g d q=>by
  obtain⟨i,o,rfl⟩:=Hq.1 he;obtain⟨j,n,rfl⟩:=Hq.1 d;have B:(es.toList.map (·.key))[j]'(by simpa using n)=(es.toList.map (·.key))[i]'(by simpa using o):=by simpa using q
  have:=(MZ k).1 B;grind
 refine⟨a,G,K,I,fun x f=>?_,?_,fun g d l=>?_,fun x f=>?_⟩
 .rcases Dx.1 f with f|f
  .exact h.sub x f
  .grind
 .rw[DT,LW,WJ];refine⟨h.nod,Bi,fun x f y D q=>?_⟩;simp at D;obtain⟨L,v,rfl⟩:=Cr.1 f;obtain⟨g,d,t,m⟩:=h.bwd L v;grind
 .rcases Array.mem_push.1 l with l|l
  .obtain⟨x,f,q⟩:=h.fwd g d l;grind
  .by_cases q:g.born∈seen
   .grind
   .refine⟨a,Bi,?_⟩;have r:=hm.st.2.1
    have:g=e:=by
     obtain⟨i,o,rfl⟩:=Hq.1 he;obtain⟨j,n,rfl⟩:=Hq.1 d;have B:(es.toList.map (·.born))[j]'(by simpa using n)=(es.toList.map (·.born))[i]'(by simpa using o):=by simpa using l
     have:=(MZ r).1 B;subst this;rfl
    grind
 .rcases Dx.1 f with f|f
  .obtain⟨g,d,t,m⟩:=h.bwd x f;grind
  .grind
def Seen.done(hm:Mp w b es c (A.map fun a=>(a.1,enc a.2)))(h:Seen enc es seen A V)(d:∀e∈es.toList,e.born∈seen):∀a,a∈V↔a∈A:=fun a=>by
 refine⟨h.sub a,fun n=>?_⟩;have g:=hm.keys;rw[EO]at g
 have m:(Bl a.1,enc a.2)∈es.toList.map (fun e=>(e.key,e.val)):=by
  rw[hm.kv,EO];grind
 obtain⟨e,k,q⟩:=Cr.1 m;injection q with q1 q2;obtain⟨r,f,t⟩:=h.fwd e k (d e k);have l:a.1=r.1:=Bg;have p:=h.sub _ f;obtain⟨i,y,rfl⟩:=Hq.1 n;obtain⟨j,v,rfl⟩:=Hq.1 p;have o:(A.map ((fun x=>x.1)∘fun a=>(a.1,enc a.2)))[i]'Bg=(A.map ((fun x=>x.1)∘fun a=>(a.1,enc a.2)))[j]'Bg:=by simpa using l
 have:=(MZ g).1 o;grind
end
end
section
attribute [local irreducible] OW KW QW EX GW NV
open Pth Rec Srt Wal
abbrev Qe:={ x:M//Ajb x.path<=2000000 }
instance:Inhabited Qe:=⟨⟨⟨[],0,0,0,0⟩,Bi⟩⟩
abbrev Mu(x:Qe):Bh:=x.1.path
def qU(x y:Qe)(W:Ad)(o:Dy W):Bn prog 80 [.agg (x.1.cells).toArray,.agg (y.1.cells).toArray] W fun r W'=>r=U (Cg Mu x y)/\Gr W W':=by
 obtain⟨x,j⟩:=x;obtain⟨y,i⟩:=y;refine Bw func80 Z ntmps80 (by rfl) Z ?_;refine(O 2∘Zv (by exact EX.box (l:=x.cells) Z Z)) ?_;have d:=Bk.new W 60 x.cells;have h:=Gr.alloc W (.cells x.cells.toArray 60);generalize m:W.alloc (.cells x.cells.toArray 60)=w1 at d h;refine(Zv (by exact EX.box (l:=y.cells) Z Z)∘O 5) ?_;have e:=Bk.new w1 60 y.cells;have f:=Gr.alloc w1 (.cells y.cells.toArray 60);have a:=d.ext f.1;generalize k:w1.alloc (.cells y.cells.toArray 60)=w2 at e f a;have g:=h.trans f;refine(O 3∘Zc (rY x.path y.path j i w2 (o.ext g.1))) ?_;rintro _ p⟨rfl,n⟩;refine(O 2∘Br) ?_;exact⟨Z,g.trans n⟩
def NQ(m:Bh->Aw M)(n:Nt):Bh->Aw M:=if n.kind=1 then FM m n.mem.path (J n.mem)else if n.kind=2 then FM m n.mem.path Aa else m
def Hf(l:Ae M)(ns:Ae Nt):Bh->Aw M:=ns.foldl NQ (LB M.path l)
def Um(l:Ae M)(ns:Ae Nt)(n:Nt):Hf l (ns++[n])=NQ (Hf l ns) n:=by simp[Hf]
def snocI{α:Type}{p:Ae α->Prop}(h0:p [])(h1:∀l a,p l->p (l++[a]))(l:Ae α):p l:=by
 have:∀r:Ae α,p r.reverse:=fun r=>by
  induction r with
  |nil=>grind
  |cons a r ih=>grind
 simpa using this l.reverse
def qQ(l:Ae M)(ns:Ae Nt):∀p z,Hf l ns p=J z->z.path=p/\(z∈l∨∃n∈ns,n.mem=z):=by
 induction ns using snocI with
 |h0=>intro p z h;exact⟨jI M.path h,.inl (Zb M.path h)⟩
 |h1 ns n ih=>
  intro p z h;rw[Um]at h
  have a:Hf l ns p=J z->z.path=p/\(z∈l∨∃k∈ns++[n],k.mem=z):=fun q=>by
   grind
  unfold NQ at h;split at h
  .unfold FM at h;grind
  .split at h
   .unfold FM at h;grind
   .grind
abbrev OB:=Bh×M
abbrev OM(m:M):Ah:=.agg m.cells.toArray
def lN{α:Type}(l:Ae (Bh×α))(s:Bh)(v:α):Ajb (Hl l s v)<=Ajb l+1:=by
 unfold Hl;grind
def tp{α:Type}(l:Ae (Bh×α))(s:Bh):Ajb (IT l s)<=Ajb l:=RR _ _
def ZE{α:Type}[DecidableEq α]:∀{V A:Ae α},V.Nodup->(∀a∈V,a∈A)->Ajb V<=Ajb A
 |[],_,_,_=>BE _
 |x::V,A,hn,h=>by
  have hn':=TR.1 hn;have hx:=h x Bi;have ih:=ZE (A:=A.erase x) hn'.2 (fun a ha=>(List.mem_erase_of_ne (fun e=>hn'.1 Bg)).2 (h a Bg));grind
def kJ{α β:Type}{V:Ae (α×β)}(h:(V.map (·.1)).Nodup):V.Nodup:=by
 have:V.Pairwise (fun a b=>a.1≠b.1):=LX.1 h;exact this.imp fun d e=>d (by rw[e])
def vN{w w':Ad}{r b s:Y}{a:Ap Y}{c:Y}(h:It w r b s a c)(hx:Bf w w'):It w' r b s a c:=by
 unfold It at h ⊢
 have d:r<w.heap.size:=by
  rcases Df r w.heap.size with q|q
  .omega
  .grind
 rw[hx.block r d];omega
def bH(l:Ae M)(hl:∀x∈l,Ajb x.path<=2000000)(hn:Ajb l<=100000)(ns:Ae Nt)(co:∀x∈ns,Ajb x.mem.path<=2000000)(cm:Ajb ns<=100000)(A A2:Aw AC)(c c2 B B2:Y)(w:Ad)(hG:Dy w)(hs:Sl w B A (DK l))(b4:Sl w B2 A2 (CP ns)):
 Bn prog 42 [.slice A (Ajb l) c,.slice A2 (Ajb ns) c2] w fun v w'=>∃out,IsMap M.path (Hf l ns) out/\Bo w' w.heap.size 60 5 v (Ajb out) (DK out)/\Bf w w':=by
 refine Bw func42 Z ntmps42 Be Z ?_;refine(O 6) ?_;refine dD Z Z ?_;rintro mb w1 bx b9 b3;refine(O 10)<|Lo (fun((i,wr):Y×Ad)=>(i<=Ajb l/\(∃es cc AA,Mp wr mb es cc (AA.map fun a:OB=>(a.1,OM a.2))/\OC AA (LB M.path (l.take i))/\Ajb AA<=i)/\Bf w wr,[(1,.slice A2 (Ajb ns) c2),(5,.map (J mb)),(14,.slice A (Ajb l) c),(15,U ((Ajb l:Y):H)),(16,U i)],wr,Ajb l-i)) (0,w1) ?_ ?_
 .exact⟨BE _,⟨_,_,[],b9,OC.nil,Bv _⟩,b3⟩
 .rintro⟨i,wr⟩⟨hi,⟨es,cc,AA,hm,d,bi⟩,E⟩;refine(O 5)<|Zi (fun g=>?_) fun g=>?_
  .obtain⟨b,o,rfl,_,m⟩:=(hs.ext E).flat (c:=5) (fun _=>rfl) Bc g;have G:l.take (i+1)=l.take i++[l[i]]:=(CS g).symm;generalize l[i]=x at m G;refine(O 6∘Zv (Dr x.cells m)∘Zn) ?_;rintro xb w2 a7 bh D;refine(Zs bh (hlt:=Bv _)) ?_;rintro w3 N Q;refine(O 4) ?_;replace N:Bk w3 xb 60 x.cells:=N;have S:Bf wr w3:=Bu D Q D.size (fun k n=>by simp at n;omega);have al:=hm.ext S;refine(O 1∘Zv (BW N)) ?_;refine OW.put Z underlying149 underlying9 Z Z Z (al) ?_;rintro ao a0 T K j;refine(O 6)<|Lb ((i+1),T) ?_;refine⟨X,⟨ao,a0,Hl AA x.path x,?_,by rw[G,vU];exact d.put _ _,BC (lN _ _ _) X⟩,Bu (E.trans S) j (E.trans S).size (fun k n=>by simp at n;omega)⟩;rw[lO OM AA x.path x];exact K
  .obtain rfl:i=Ajb l:=X;rw[DV]at d;refine(O 9)<|Lo (fun((i,wr):Y×Ad)=>(i<=Ajb ns/\(∃es cc AA,Mp wr mb es cc (AA.map fun a:OB=>(a.1,OM a.2))/\OC AA (Hf l (ns.take i))/\Ajb AA<=Ajb l+i)/\Bf w wr,[(5,.map (J mb)),(25,.slice A2 (Ajb ns) c2),(26,U ((Ajb ns:Y):H)),(27,U i)],wr,Ajb ns-i)) (0,wr) ?_ ?_
   .exact⟨BE _,⟨_,_,AA,hm,d,bi⟩,E⟩
   .clear hm d bi E es cc AA;rintro⟨i,wr⟩⟨hi,⟨es,cc,AA,hm,d,bi⟩,E⟩;refine(O 5)<|Zi (fun g=>?_) fun g=>?_
    .obtain⟨b,o,rfl,_,m⟩:=(b4.ext E).flat (c:=6) (fun _=>rfl) Bc g;have G:ns.take (i+1)=ns.take i++[ns[i]]:=(CS g).symm;generalize ns[i]=x at m G;refine(O 6∘Zv (Dr x.cells m)∘Zn) ?_;rintro xb w2 a7 bh D;refine(Zs bh (hlt:=Bv _)) ?_;rintro w3 N Q;refine(O 4) ?_;replace N:Bk w3 xb 116 x.cells:=N;have S:Bf wr w3:=Bu D Q D.size (fun k n=>by simp at n;omega);have al:=hm.ext S;have a9:=N.part (o:=1) (l2:=x.mem.cells) Z;refine(O 8)<|Zi (fun a2=>?_) fun a2=>?_
     .have af:Hf l (ns.take (i+1))=FM (Hf l (ns.take i)) x.mem.path (J x.mem):=by rw[G,Um];unfold NQ;rw[Ai a2]
      refine(O 6∘Zv (Dr x.mem.cells a9)) ?_;refine OW.put Z underlying149 underlying9 Z Z Z (al) ?_;rintro ao a0 T K j;refine(O 7)<|Lb ((i+1),T) ?_;refine⟨X,⟨ao,a0,Hl AA x.mem.path x.mem,?_,by rw[af];exact d.put _ _,BC (lN _ _ _) X⟩,Bu (E.trans S) j (E.trans S).size (fun k n=>by simp at n;omega)⟩;rw[lO OM AA x.mem.path x.mem];exact K
     .refine(O 5)<|Zi (fun bc=>?_) fun bc=>?_
      .have af:Hf l (ns.take (i+1))=FM (Hf l (ns.take i)) x.mem.path Aa:=by rw[G,Um];unfold NQ;rw[Ag a2,Ai bc]
       refine(O 5) ?_;refine OW.del Z underlying149 underlying9 Z Z (al) ?_;rintro ao a0 T K j;refine(O 7)<|Lb ((i+1),T) ?_;refine⟨X,⟨ao,a0,IT AA x.mem.path,?_,by rw[af];exact d.del _,BC (tp _ _) X⟩,Bu (E.trans S) j (E.trans S).size (fun k n=>by simp at n;omega)⟩;rw[tu OM AA x.mem.path];exact K
      .have af:Hf l (ns.take (i+1))=Hf l (ns.take i):=by rw[G,Um];unfold NQ;rw[Ag a2,Ag bc]
       refine(O 7)<|Lb ((i+1),w3) ?_;exact⟨X,⟨es,cc,AA,al,by rw[af];exact d,X⟩,E.trans S⟩
    .obtain rfl:i=Ajb ns:=X;rw[DV]at d;have cn:w.heap.size<=mb:=bx
     have bq:∀a∈AA,a.2.path=a.1/\Ajb a.2.path<=2000000:=fun a ha=>by
      obtain⟨e1,e2⟩:=qQ l ns _ _ ((d a.1 a.2).1 ha);grind
     refine(O 9) ?_;refine OW.range Z Z underlying149 Z (hm) ?_;rintro rb w2 a7 cb D;refine(O 1) ?_;have b8:=hm.ext D;have x2:=E.trans D;have ck:rb≠mb:=by have:=hm.lt;omega
     have cl:w.heap.size<=rb:=by have:=E.size;omega
     refine Lc (fun((V,v,P):(Ae OB)×Ah×Ad)=>((∀a,a∈V↔a∈AA)/\(V.map (fun a:OB=>a.1)).Nodup/\Bo P w.heap.size 60 5 v (Ajb V) (DK (V.map (fun a:OB=>a.2)))/\Bf w P,[(10,v)],P)) ?_ ?_
     .refine(O 1)<|Lo (fun((V,v,P):(Ae OB)×Ah×Ad)=>((∃ab,Seen OM es ab AA V/\It P rb mb cc ab cc)/\Mp P mb es cc (AA.map fun a:OB=>(a.1,OM a.2))/\Bo P w.heap.size 60 5 v (Ajb V) (DK (V.map (·.2)))/\Bf w P,[(10,v),(49,.pointer (J ⟨rb,0,Aa⟩))],P,Ajb AA-Ajb V)) (([]),(.slice Aa 0 0),w2) ?_ ?_
      .exact⟨⟨#[],Seen.nil,cb⟩,b8,Bo.nil _ _ _ _,x2⟩
      .rintro⟨V,v,P⟩⟨⟨ab,I,bs⟩,a1,h,C⟩;refine(O 2) ?_;refine OW.next Z Z Z (a1) (bs) ?_ ?_
       .intro b2;refine(O 5∘Lm (V,v,P)) ?_;exact⟨I.done a1 b2,I.nod,h,C⟩
       .rintro e w3 he b6 a6 aj;refine(O 8) ?_;obtain⟨a,cp,n,hv,r⟩:=I.next a1 he b6;obtain⟨ek,ew,eb⟩:=e;simp only at n hv;subst n hv;have Q:=a1.mo aj Bg;have S:Bf w w3:=Bu C aj C.size (fun k n=>by simp at n;omega)
        have ba:=h.mo aj (fun k n=>by
         simp only[CF];rintro rfl;obtain⟨_,_,fr,q,_⟩:=h.blkT k n;unfold It at bs;grind)
        have cf:Ajb V<Ajb AA:=by
         have:=ZE (kJ r.nod) r.sub;rw[BA,Dd]at this;omega
        refine(Zv (by exact oX Z (Q) (a6) (he))∘O 1∘Zn) ?_;rintro xb w4 cj ce bj;refine(Zs ce (hlt:=Bv _)) ?_;rintro T bf K;refine(O 3) ?_;replace bf:Bk T xb 60 a.2.cells:=bf;have y5:Bf w3 T:=Bu bj K bj.size (fun k n=>by simp at n;omega);have x5:=S.trans y5;have t:=ba.ext y5;have bm:=Q.ext y5;have a5:=vN a6 y5;refine(Zv (BW bf)∘Kx x5 t) ?_;rintro _ v6 w6 b5 x6 cd;refine(O 3) ?_;have a4:Mo T w6 v.ownBlock.toList:=Mo.grown cd (fun k e=>by grind)
        have nm:mb∉v.ownBlock.toList:=fun q=>by
         obtain⟨_,_,fr,q2,_⟩:=t.blkT mb (FC.1 q);rw[bm.blk]at q2;cases q2
        have nr:rb∉v.ownBlock.toList:=fun q=>by
         obtain⟨_,_,fr,q2,_⟩:=t.blkT rb (FC.1 q);unfold It at a5;grind
        refine Lb ((V++[a]),v6,w6) ?_ (hm:=by dsimp only;rw[BA];simp;omega);refine⟨⟨_,r,?_⟩,bm.mo a4 nm,?_,x6⟩
        .unfold It at a5 ⊢
         have g:rb<T.heap.size:=by
          rcases Df rb T.heap.size with h'|h'
          .omega
          .grind
         rw[a4.block rb g nr];omega
        .rw[BA,DT,LW,kC];omega
     .rintro⟨V,v,P⟩⟨hV,a3,h,C⟩
      have ch:∀z,z∈V.map (·.2)↔Hf l ns z.path=J z:=fun z=>by
       constructor
       .intro hz;obtain⟨a,ha,rfl⟩:=Cr.1 hz;rw[(bq a ((hV a).1 ha)).1];exact(d a.1 a.2).1 ((hV a).1 ha)
       .intro hz;exact Cr.2 ⟨(z.path,z),(hV _).2 ((d _ _).2 hz),Z⟩
      have b1:∀x∈V.map (·.2),Ajb x.path<=2000000:=fun x E=>by
       grind
      have bn:(V.map (·.2)).map M.path=V.map (·.1):=by
       rw[EO];exact Kj fun a ha=>(bq a ((hV a).1 ha)).1
      obtain⟨L,hL⟩:∃L:Ae Qe,L.map (·.1)=V.map (·.2):=⟨(V.map (·.2)).attachWith _ b1,Bi⟩;have cg:Ajb L=Ajb V:=by have:=Av DZ hL;simpa using this
      have b0:∀L:Ae Qe,L.flatMap (fun x=>x.1.cells)=DK (L.map (·.1)):=fun L=>by
       induction L with
       |nil=>rfl
       |cons x L ih=>rw[FZ,Co,ih];rfl
      have cf:Ajb V<=1000000:=by
       have h1:=ZE (V:=V) (A:=AA) (kJ a3) (fun p hp=>(hV p).1 hp);omega
      have bb:Bo P w.heap.size 60 5 v (Ajb L) (L.flatMap (fun x=>x.1.cells)):=by rw[b0,hL,cg];exact h
      have c1:=VG Tryz.Ahw (f:=79) Z func79 Be (e:=60) Z underlying60 Z Tp Bc (cells:=fun x:Qe=>x.1.cells) (fun _=>rfl) (fun x v hv=>by simp[M.cells]at hv;rcases hv with rfl|rfl|rfl|rfl|rfl<;>rfl) (Cg Mu) (swo Mu) func80 Be w.heap.size L X v P bb
       (fun W x y b7=>qU x y W (by
        obtain⟨mm,bl⟩:=hG
        exact⟨mm,by
         have hb:0<w.heap.size:=World.block_lt_of_cell? w _ bl;have h1:=b7.block 0 (Ks hb C.size) (fun q=>by have:=(h.lt _ (FC.1 q)).1;omega);have h2:=C.block 0 hb;unfold World.cell? at bl ⊢;grind⟩))
      refine(O 3∘Zc c1) ?_;rintro _ T⟨rfl,L',ai,a8,t,j⟩;refine(O 6∘Br) ?_
      have ca:(L'.map Mu).Nodup:=by
       have h1:(L.map Mu).Nodup:=by
        have:L.map Mu=V.map (·.1):=by
         have e1:L.map Mu=(L.map (·.1)).map M.path:=by rw[EO];rfl
         rw[e1,hL];exact bn
        rw[this];exact a3
       exact(ai.map Mu).nodup_iff.2 h1
      have hr:=Aah Mu a8 ca;refine⟨L'.map (·.1),⟨?_,fun x=>?_⟩,?_,Bu C j C.size (fun k n=>(h.lt k (FC.1 n)).1)⟩
      .exact LX.2 hr
      .grind
      .rw[DF,ai.length_eq,<-b0];omega
end
section
attribute [local irreducible] OW KW QW EX GW NV
open Pth Rec Srt Dsk Wal Cat
structure _root_.Go.Proofs.YtkmlafmjaeeanaaGreatDoor.Vl where
 D:Dv
 gen:H
 next:H
 mems:Ae M
 broken:Ar
def HA(db:Y)(V:Vl)(u:Ah):Bm:=[.pointer (J ⟨db,0,Aa⟩),U V.gen,U V.next,u,.bool V.broken]
structure VAt(w:Ad)(B vb db:Y)(V:Vl):Prop where
 dev:Cm w B db V.D
 at_:∃u,Bk w vb 82 (HA db V u)/\Bo w B 60 5 u (Ajb V.mems) (DK V.mems)
 low:B<=vb
structure VAu(w:Ad)(B vb db:Y)(V:Vl)(u:Ah):Prop where
 dev:Cm w B db V.D
 bk:Bk w vb 82 (HA db V u)
 own:Bo w B 60 5 u (Ajb V.mems) (DK V.mems)
 low:B<=vb
def VAu.at_{w:Ad}{B vb db:Y}{V:Vl}{u:Ah}(h:VAu w B vb db V u):VAt w B vb db V:=⟨h.dev,⟨u,h.bk,h.own⟩,h.low⟩
def VAt.u{w:Ad}{B vb db:Y}{V:Vl}(h:VAt w B vb db V):∃u,VAu w B vb db V u:=by
 obtain⟨f,⟨u,e,d⟩,a⟩:=h;exact⟨u,f,e,d,a⟩
def vty(T:Ay):Ar:=Cj T||T==82
section
variable{w w':Ad}{B vb db:Y}{V V':Vl}
def VAt.ext(h:VAt w B vb db V)(hx:Bf w w'):VAt w' B vb db V:=by
 obtain⟨f,⟨u,e,d⟩,a⟩:=h;exact⟨f.ext hx,⟨u,e.ext hx,d.ext hx⟩,a⟩
def VAt.dev_tm(h:VAt w B vb db V){D':Dv}(a:Cm w' B db D')(t:Tm w w' B Cj):VAt w' B vb db { V with D:=D' }:=by
 obtain⟨g,⟨u,f,e⟩,d⟩:=h;exact⟨a,⟨u,t.bk f Bc,t.own e Bc⟩,d⟩
def Tm.vty{w w':Ad}{B:Y}(t:Tm w w' B Cj):Tm w w' B vty:=t.mono fun T h=>by unfold Go.Proofs.YtkmlafmjaeeanaaGreatDoor.vty;grind
def VAt.put(h:VAt w B vb db V){u a:Ah}(d:Bk w vb 82 (HA db V u))(f:Bk w' vb 82 (HA db V' a))(e:Bo w B 60 5 a (Ajb V'.mems) (DK V'.mems))(hm:Mo w w' [vb])(g:V'.D=V.D):VAt w' B vb db V'/\Tm w w' B vty:=by
 have t:=Tm.set d hm h.low;refine⟨⟨?_,⟨a,f,t.own e Bc⟩,h.low⟩,t.mono fun T h=>by unfold vty;grind⟩;rw[g];exact h.dev.tm t Bc Bc Bc Bc Bc Bc
def VAu.ext{u:Ah}(h:VAu w B vb db V u)(hx:Bf w w'):VAu w' B vb db V u:=⟨h.dev.ext hx,h.bk.ext hx,h.own.ext hx,h.low⟩
def VAu.dev_tm{u:Ah}(h:VAu w B vb db V u){D':Dv}(hd:Cm w' B db D')(t:Tm w w' B Cj):VAu w' B vb db { V with D:=D' } u:=
 ⟨hd,t.bk h.bk Bc,t.own h.own Bc,h.low⟩
def VAu.put{u a:Ah}(h:VAu w B vb db V u)(e:Bk w' vb 82 (HA db V' a))(d:Bo w B 60 5 a (Ajb V'.mems) (DK V'.mems))(hm:Mo w w' [vb])(f:V'.D=V.D):VAu w' B vb db V' a/\Tm w w' B vty:=by
 have t:=Tm.set h.bk hm h.low;refine⟨⟨?_,e,t.own d Bc,h.low⟩,t.mono fun T h=>by unfold vty;grind⟩;rw[f];exact h.dev.tm t Bc Bc Bc Bc Bc Bc
def ON{u:Ah}(h:VAu w B vb db V u)(e:Y):Bn prog 67 [.pointer (J ⟨vb,0,Aa⟩),U (e:H)] w fun v w'=>v=U (e:H)/\VAu w' B vb db { V with broken:=V.broken||decide (e≠0) } u/\Tm w w' B vty:=by
 have k:=h.bk;refine Bw func67 Z ntmps67 (by rfl) Z ?_;refine(O 12) ?_;refine OW.split 10 Z (fun j=>?_) (fun j=>?_)
 .refine(O 5∘Zt k (hlt:=Bv _)) ?_;rintro f a d;refine(O 6) ?_
  replace a:Bk f vb 82 (HA db { V with broken:=V.broken||decide (e≠0) } u):=by
   rw[show(V.broken||decide (e≠0))=Af by rw[j];rfl];exact a
  refine(Br) ?_;obtain⟨i,g⟩:=h.put a h.own d Z;exact⟨Z,i,g⟩
 .refine(O 5∘Zt k (hlt:=Bv _)) ?_;rintro f a d;refine(O 6) ?_
  replace a:Bk f vb 82 (HA db { V with broken:=V.broken||decide (e≠0) } u):=by
   rw[show(V.broken||decide (e≠0))=decide (e≠0) by rw[j];rfl];exact a
  refine(Br) ?_;obtain⟨i,g⟩:=h.put a h.own d Z;exact⟨Z,i,g⟩
def Yj(h:VAt w B vb db V)(e:Y):Bn prog 67 [.pointer (J ⟨vb,0,Aa⟩),U (e:H)] w fun v w'=>v=U (e:H)/\VAt w' B vb db { V with broken:=V.broken||decide (e≠0) }/\Tm w w' B vty:=by
 obtain⟨u,a⟩:=h.u;exact(ON a e).mono fun _ _ q=>⟨q.1,q.2.1.at_,q.2.2⟩
def Xe(h:VAt w B vb db V)(e:V.D.Ok):Bn prog 68 [.pointer (J ⟨vb,0,Aa⟩)] w fun v w'=>v=U ((if V.broken=Af∨V.D.dead=Af then 190 else 0:Y):H)/\w=w':=by
 obtain⟨u,g,f⟩:=h.at_;refine Bw func68 Z ntmps68 (by rfl) Z ?_;refine(O 29) ?_;refine OW.split 20 Z (fun a=>?_) (fun a=>?_)
 .refine(O 14∘Br) ?_;grind
 .refine(O 5∘Zc (Qy h.dev e)) ?_;rintro _ _⟨rfl,rfl⟩;refine(O 3) ?_;refine HD Z (fun d=>?_) (fun d=>?_)
  .refine(O 4∘Br) ?_;grind
  .refine(O 6∘Br) ?_;grind
def Afl(h:VAt w B vb db V)(a:V.D.Ok):Bn prog 60 [.pointer (J ⟨vb,0,Aa⟩)] w fun v w'=>v=U (V.D.cap:H)/\w=w':=by
 obtain⟨u,e,d⟩:=h.at_;refine Bw func60 Z ntmps60 (by rfl) Z ?_;refine(O 19∘Zc (Ht h.dev a)) ?_;rintro _ _⟨rfl,rfl⟩;refine(O 2∘Br) ?_;simp
end
def xH(l:Ae M):∀u∈DK l,u.oneCell'=Af:=by
 intro u a;obtain⟨p,_,h⟩:=Ov.1 a;simp only[M.cells,List.mem_cons,List.not_mem_nil,or_false]at h;rcases h with rfl|rfl|rfl|rfl|rfl<;>rfl
def rT(l:Ae M)(hl:Ajb l<=1000000)(A:Aw AC)(c B:Y)(w:Ad)(n:Sl w B A (DK l)):
 Bn prog 52 [.slice A (Ajb l) c] w fun v w'=>Bo w' w.heap.size 60 5 v (Ajb l) (DK l)/\Bf w w':=by
 have j:=KE (cells:=M.cells) (k:=5) (fun _=>rfl) l;refine Bw func52 Z ntmps52 (by rfl) Z ?_;rcases A with _|⟨b,o,E⟩
 .have i:l=[]:=by
   rcases n with h|⟨_,_,h,_⟩
   .cases l with
    |nil=>rfl
    |cons x l=>
     have e:List.flatMap M.cells (x::l)=[]:=h;grind
   .cases h
  subst i;refine(O 15∘Br) ?_;exact⟨Bo.nil _ _ _ _,Bf.refl _⟩
 .refine(O 14) ?_;refine Mb 0 ([]) Z Z underlying56 Tp Z Bc Z Z Z Bi Bc ?_;rintro y p f m d;refine(O 1) ?_;have a:Bo p w.heap.size 60 5 (.slice (J ⟨y,0,Aa⟩) 0 0) 0 []:=Bo.Agl (cap:=0) m f Z Bc;refine HL Z Z underlying56 Tp Z Bc Z Z (d) (a) (Src.Agn underlying56 (n.ext d) j (xH l) Bc) CA X ?_;rintro D C g q t r;refine(O 2∘Br) ?_;grind
section
variable{w w':Ad}{B vb db:Y}{V V':Vl}
def UZ(h:VAt w B vb db V)(hm:Ajb V.mems<=1000000):Bn prog 23 [.pointer (J ⟨vb,0,Aa⟩)] w fun v w'=>Bo w' w.heap.size 60 5 v (Ajb V.mems) (DK V.mems)/\Bf w w':=by
 obtain⟨u,g,d⟩:=h.at_;obtain⟨A,c,rfl,_,a⟩:=d.slice;refine Bw func23 Z ntmps23 (by rfl) Z ?_;refine(O 19∘Zc (rT V.mems hm A c _ w a)) ?_;rintro _ e⟨own,f⟩;refine(O 2∘Br) ?_;grind
def UL(h:VAt w B vb db V)(hm:Ajb V.mems<=1000000):Bn prog 66 [.pointer (J ⟨vb,0,Aa⟩)] w fun v w'=>Bo w' w.heap.size 121 2 v (Ajb V.mems) (Eg (BY V.mems))/\Bf w w':=by
 obtain⟨u,Q,E⟩:=h.at_;obtain⟨A,c,rfl,_,n⟩:=E.slice;generalize T:V.mems=l at hm n E Q;refine Bw func66 Z ntmps66 Be Z ?_;refine(O 19) ?_;have P:Ajb (BY l)=Ajb l:=Mm l;refine Lo (fun((i,q,wr):Y×Ah×Ad)=>(i<=Ajb l/\Bo wr w.heap.size 121 2 q i (Eg (BY (l.take i)))/\Bf w wr,[(3,q),(9,.slice A (Ajb l) c),(10,U ((Ajb l:Y):H)),(11,U i)],wr,Ajb l-i)) (0,(.slice Aa 0 0),w) ?_ ?_
 .exact⟨BE _,Bo.nil _ _ _ _,Bf.refl _⟩
 .rintro⟨i,q,wr⟩⟨hi,f,D⟩;refine(O 5)<|Zi (fun a=>?_) fun a=>?_
  .obtain⟨b,o,rfl,_,d⟩:=(n.ext D).flat (l:=l) (i:=i) (c:=5) (fun _=>rfl) Bc a;have j:l.take (i+1)=l.take i++[l[i]]:=(CS a).symm;generalize l[i]=m at d j;refine(O 6∘Zv (Dr m.cells d)∘Zn) ?_;rintro I S G x e;refine(Zs x (hlt:=Bv _)) ?_;rintro C p t;refine(O 4) ?_;replace p:Bk C I 60 m.cells:=p;have y:Bf wr C:=Bu e t e.size (fun k W=>by grind);refine(O 4∘Kx (D.trans y) (f.ext y)) ?_;rintro _ L K g r N;refine(O 7)<|Lb ((i+1),L,K) ?_;refine⟨a,?_,r⟩;rw[j,show BY (l.take i++[m])=BY (l.take i)++[(m.start,m.sectors)] by simp[BY],PJ];exact g
  .obtain rfl:i=Ajb l:=X;rw[Dq (Bv _)]at f;refine(O 6∘Br) ?_;grind
def vV(h:VAt w B vb db V)(hm:Ajb V.mems<=1000000):Bn prog 45 [.pointer (J ⟨vb,0,Aa⟩)] w fun v w'=>Bo w' w.heap.size 9 1 v (Ajb V.mems) (De (V.mems.map M.path))/\Bf w w':=by
 have K:=UZ h hm;generalize S:V.mems=l at hm K;refine Bw func45 Z ntmps45 (by rfl) Z ?_;refine(O 12∘Zc K) ?_;rintro _ p⟨own,g⟩;obtain⟨A,c,rfl,_,x⟩:=own.slice;refine(O 4)<|Lo (fun((i,q,wr):Y×Ah×Ad)=>(i<=Ajb l/\Bo wr p.heap.size 9 1 q i (De ((l.take i).map M.path))/\Bf p wr,[(3,q),(7,.slice A (Ajb l) c),(8,U ((Ajb l:Y):H)),(9,U i)],wr,Ajb l-i)) (0,(.slice Aa 0 0),p) ?_ ?_
 .exact⟨BE _,Bo.nil _ _ _ _,Bf.refl _⟩
 .rintro⟨i,q,wr⟩⟨W,a,t⟩;refine(O 5)<|Zi (fun d=>?_) fun d=>?_
  .obtain⟨b,o,rfl,_,e⟩:=(x.ext t).flat (l:=l) (i:=i) (c:=5) (fun _=>rfl) Bi d;have j:l.take (i+1)=l.take i++[l[i]]:=(CS d).symm;generalize l[i]=m at e j;refine(O 6∘Zv (Dr m.cells e)∘Zn) ?_;rintro L Q I C f;refine(Zs C (hlt:=Bv _)) ?_;rintro E n y;refine(O 4) ?_;replace n:Bk E L 60 m.cells:=n;have D:Bf wr E:=Bu f y f.size (fun k T=>by grind);refine(O 1∘He (t.trans D) (a.ext D)) ?_;rintro _ P N G r _ _;refine(O 7)<|Lb ((i+1),P,N) ?_;refine⟨d,?_,r⟩;rw[j,DT,LW,bE];omega
  .obtain rfl:i=Ajb l:=X;rw[Dq (Bv _)]at a;refine(O 6∘Br) ?_;exact⟨Bo.more a g.size,g.trans t⟩
end
noncomputable def Dl(l:Ae M)(ns:Ae Nt):Ae M:=open Classical in if h:∃out,IsMap M.path (Hf l ns) out then h.choose else[]
def Un{l:Ae M}{ns:Ae Nt}{out:Ae M}(h:IsMap M.path (Hf l ns) out):Dl l ns=out:=by
 have a:∃out,IsMap M.path (Hf l ns) out:=⟨out,h⟩;unfold Dl;rw[AQ a];exact IsMap.one a.choose_spec h
structure VOk(V:Vl)(k:Y):Prop where
 dev:V.D.Ok
 sm:Sm V.D k
 gen:0<=V.gen/\V.gen<=4611686018427387905
 next:0<=V.next/\V.next<=20
 ok:∀m∈V.mems,m.Ok
 len:Ajb V.mems<=1000
 path:∀m∈V.mems,Ajb m.path<=2000000
noncomputable def CQ(V:Vl)(n:H):Vl×Y:=
 if n<=20-V.next then(V,0)
 else if(CR V.D (V.gen+1) V.mems).2≠0 then({ V with D:=(CR V.D (V.gen+1) V.mems).1,broken:=Af },(CR V.D (V.gen+1) V.mems).2)
 else({ V with D:=(CR V.D (V.gen+1) V.mems).1,gen:=V.gen+1,next:=0 },0)
noncomputable def Mk(V:Vl)(ns:Ae Nt):Vl×Y:=
 if(Fs V.D V.gen V.next ns).2.2≠0 then({ V with D:=(Fs V.D V.gen V.next ns).1,broken:=Af },(Fs V.D V.gen V.next ns).2.2)
 else({ V with D:=(Fs V.D V.gen V.next ns).1,next:=(Fs V.D V.gen V.next ns).2.1,mems:=Dl V.mems ns },0)
section
variable{w w':Ad}{B vb db:Y}{V V':Vl}{k:Y}
def az{u:Ah}(h:VAu w B vb db V u)(f:VOk V k)(hk:k<=900000000)(hG:Dy w)(n:H)(h0:0<=n/\n<=1000000):Bn prog 54 [.pointer (J ⟨vb,0,Aa⟩),U n] w fun v w'=>v=U (((CQ V n).2:Y):H)/\VAu w' B vb db (CQ V n).1 u/\Tm w w' B vty:=by
 have hb:=h.bk;have G:=h.own;have K:=f.gen;have o:=f.next;have I:=f.len;refine Bw func54 Z ntmps54 Be Z ?_;refine(O 15)<|Zi (fun a=>?_) fun a=>?_
 .have e:CQ V n=(V,0):=Ai a;rw[e];refine(O 4∘Br) ?_;exact⟨Z,h,Tm.refl _ _ _⟩
 .obtain⟨A,c,rfl,_,m⟩:=G.slice;have P:=mM f.dev f.sm hk B db (V.gen+1) X X V.mems X f.ok A c _ w.drew (hG.ext (Bf.drew w)) (h.dev.ext (Bf.drew w)) (m.ext (Bf.drew w));obtain⟨r,hr⟩:∃r,r=CR V.D (V.gen+1) V.mems:=⟨_,Z⟩;have e:CQ V n=if r.2≠0 then({ V with D:=r.1,broken:=Af },r.2)else({ V with D:=r.1,gen:=V.gen+1,next:=0 },0):=by rw[hr];exact Ag a
  rw[e];rw[<-hr]at P;refine(O 3∘Yr 15 (fun w'=>Bk w' vb 82 (HA db V (.slice A (Ajb V.mems) c))) hb.drew) fun C=>(Gv [0,1,2,3,4,5,6,7,8,9,10,11,12]∘Yc 13 P) ?_;rintro _ l⟨rfl,x,j⟩;refine⟨j.bk C Bc,fun C=>?_⟩;refine(Gv [14]∘Yd∘O 5) ?_;have N:VAu l B vb db { V with D:=r.1 } (.slice A (Ajb V.mems) c):=(h.ext (Bf.drew w)).dev_tm x j;have g:Tm w l B vty:=(Tm.Agk (Bf.drew w) _ _).trans (Tm.vty j);refine Zi (fun he=>?_) fun he=>?_
  .have t:r.2≠0:=X;rw[Ai t];refine(O 4∘Zc (ON N r.2)) ?_;rintro _ Q⟨rfl,L,S⟩;refine(O 2∘Br) ?_;rw[show(({ V with D:=r.1 }:Vl).broken||decide (r.2≠0))=Af by grind]at L;exact⟨Z,L,g.trans S⟩
  .rw[Ag X];refine(O 12∘Zt C (hlt:=(by decide:(1:Y)<5))) ?_;rintro Q y q;refine(O 2∘Zt y (hlt:=(by decide:(2:Y)<5))) ?_;rintro E d p;refine(O 5) ?_;have i:Mo l E [vb]:=q.trans p;replace d:Bk E vb 82 (HA db { V with D:=r.1,gen:=V.gen+1,next:=0 } (.slice A (Ajb V.mems) c)):=d;refine(Br) ?_;obtain⟨W,T⟩:=N.put (V':={ V with D:=r.1,gen:=V.gen+1,next:=0 }) d (j.own (G.ext (Bf.drew w)) Bc) i Z;exact⟨Z,W,g.trans T⟩
def Aap(h:VAt w B vb db V)(d:VOk V k)(hk:k<=900000000)(e:Dy w)(n:H)(h0:0<=n/\n<=1000000):Bn prog 54 [.pointer (J ⟨vb,0,Aa⟩),U n] w fun v w'=>v=U (((CQ V n).2:Y):H)/\VAt w' B vb db (CQ V n).1/\Tm w w' B vty:=by
 obtain⟨u,a⟩:=h.u;exact(az a d hk e n h0).mono fun _ _ q=>⟨q.1,q.2.1.at_,q.2.2⟩
def XI(h:VAt w B vb db V)(f:VOk V k)(hk:k<=900000000)(hG:Dy w)(P:0<B)(ns:Ae Nt)(y:Ajb ns<=1000)(l:∀n∈ns,n.mem.Ok/\Ajb n.mem.path<=2000000)(q:Aw AC)(c2 C:Y)(I:Sl w C q (CP ns))(G:∀w',Tm w w' B vty->Sl w' C q (CP ns)):
 Bn prog 55 [.pointer (J ⟨vb,0,Aa⟩),.slice q (Ajb ns) c2] w fun v w'=>v=U (((Mk V ns).2:Y):H)/\VAt w' B vb db (Mk V ns).1/\Tm w w' B vty:=by
 obtain⟨u,hb,hu⟩:=h.at_;have af:=f.gen;have K:=f.next;have ab:=f.len;obtain⟨A,c,rfl,_,ai⟩:=hu.slice;have cs:=qS f.dev f.sm hk B db V.gen V.next X X X X ns X (fun n y=>(l n y).1) q c2 C w.drew (h.dev.ext (Bf.drew w)) (I.ext (Bf.drew w));unfold Mk;obtain⟨r,hr⟩:∃r,r=Fs V.D V.gen V.next ns:=⟨_,Z⟩;rw[<-hr]at cs;rw[<-hr];refine Bw func55 Z ntmps55 Be Z ?_;refine(O 5∘Yr 19 (fun w'=>Bk w' vb 82 (HA db V (.slice A (Ajb V.mems) c))) hb.drew) fun W=>(Gv [0,1,2,3,4,5,6,7,8,9,10,11,12]∘Yc 13 cs) ?_;rintro _ t⟨rfl,S,x⟩;refine⟨x.bk W Bc,fun W=>?_⟩;refine(Gv [14,15,16,17,18]∘Yd∘O 6) ?_;have h1:VAt t B vb db { V with D:=r.1 }:=(h.ext (Bf.drew w)).dev_tm S x;have a:Tm w t B vty:=(Tm.Agk (Bf.drew w) _ _).trans (Tm.vty x);refine Zi (fun he=>?_) fun he=>?_
 .have Q:r.2.2≠0:=X;rw[Ai Q];refine(O 4∘Zc (Yj h1 r.2.2)) ?_;rintro _ w2⟨rfl,h2,t2⟩;refine(O 2∘Br) ?_;rw[show(({ V with D:=r.1 }:Vl).broken||decide (r.2.2≠0))=Af by grind]at h2;exact⟨Z,h2,a.trans t2⟩
 .rw[Ag X];have E:=x.own (hu.ext (Bf.drew w)) Bc;obtain⟨A',c',e',_,i⟩:=E.slice;cases e';refine(O 11∘Zc (bH V.mems f.path X ns (fun n y=>(l n y).2) X A q c c2 _ C t (LD hG a P) i (G t a))) ?_;rintro v2 w2⟨g,m,j,d⟩;refine(O 2) ?_;have p:=W.ext d;refine(Zt p (hlt:=(by decide:(2:Y)<5))) ?_;rintro w3 T N;refine(O 2∘Zt T (hlt:=(by decide:(3:Y)<5))) ?_;rintro w4 e L;refine(O 5) ?_;have o:Mo w2 w4 [vb]:=N.trans L;rw[Un m];replace e:Bk w4 vb 82 (HA db { V with D:=r.1,next:=r.2.1,mems:=g } v2):=e;refine(Br) ?_;obtain⟨q1,q2⟩:=(h1.ext d).put (V':={ V with D:=r.1,next:=r.2.1,mems:=g }) p e (Bo.more j (BC h.dev.lt.1 (Qg (Ks h.dev.lt.2 a.size)))) o Z;exact⟨Z,q1,a.trans ((Tm.Agk d _ _).trans q2)⟩
end
def xF(e:Y)(p:Bh)(m:M)(w:Ad)(i:Bk w e 9 [Bl p]):Bn prog 86 [.agg m.cells.toArray,.pointer (J ⟨e,0,Aa⟩)] w fun v w'=>v=.bool (decide (m.path=p))/\Bf w w':=by
 refine Bw func86 Z ntmps86 (by rfl) Z ?_;refine(O 2) ?_;refine Dz Z Z Z ?_;rintro h g f a d;refine(O 5) ?_;replace a:Bk g h 60 m.cells:=a;refine(O 1∘Zv (Bp (i.ext d))∘O 3∘Br) ?_;grind
def OU(l:Ae M)(p:Bh):H:=if l.findIdx (fun m=>decide (m.path=p))<Ajb l then((l.findIdx (fun m=>decide (m.path=p)):Y):H)else -1
def vw(l:Ae M)(hl:Ajb l<=1000000)(p:Bh)(n:Y)(A:Aw AC)(c B:Y)(w:Ad)(x:Sl w B A (DK l))(C:Bk w n 9 [Bl p]):
 Bn prog 85 [.slice A (Ajb l) c,.func (.func 86) #[] #[.pointer (J ⟨n,0,Aa⟩)]] w fun v w'=>v=U (OU l p)/\Bf w w':=by
 refine Bw func85 Z ntmps85 (by rfl) Z ?_;refine(O 12)<|Lo (fun((i,wr):Y×Ad)=>(i<=Ajb l/\(∀m∈l.take i,m.path≠p)/\Bf w wr,[(0,.slice A (Ajb l) c),(1,.func (.func 86) #[] #[.pointer (J ⟨n,0,Aa⟩)]),(7,U ((Ajb l:Y):H)),(8,U i)],wr,Ajb l-i)) (0,w) ?_ ?_
 .exact⟨BE _,(fun m G=>by grind),Bf.refl _⟩
 .rintro⟨i,wr⟩⟨K,h,g⟩;refine(O 5)<|Zi (fun a=>?_) fun a=>?_
  .obtain⟨b,o,rfl,_,d⟩:=(x.ext g).flat (l:=l) (i:=i) (c:=5) (fun _=>rfl) Bc a;have q:l.take (i+1)=l.take i++[l[i]]:=(CS a).symm
   have r:l[i].path=p->l.findIdx (fun m=>decide (m.path=p))=i:=fun e=>by
    refine(List.findIdx_eq a).2 ⟨Bg,fun j I=>?_⟩;have:=h l[j] (by rw[List.mem_take_iff_getElem];grind);grind
   generalize l[i]=m at d q r;refine(O 14∘Zv (Dr m.cells d)∘DW (xF n p m wr (C.ext g))) ?_;rintro _ t⟨rfl,f⟩;refine(O 1)<|Zi (fun D=>?_) fun D=>?_
   .refine(O 5∘Br) ?_;refine⟨?_,g.trans f⟩;unfold OU;grind
   .refine(O 6)<|Lb ((i+1),t) ?_;refine⟨a,fun y E=>?_,g.trans f⟩;grind
  .obtain rfl:i=Ajb l:=X;rw[Dq (Bv _)]at h;refine(O 5∘Br) ?_;refine⟨?_,g⟩;unfold OU;grind
def Nz:M:=⟨[],0,0,0,0⟩
noncomputable def CC(V:Vl)(p:Bh):M×Y:=if V.broken=Af∨V.D.dead=Af then(Nz,190)else if Cw p≠0 then(Nz,140)else match V.mems.find? (fun m=>decide (m.path=p))with
 |none=>(Nz,240)
 |some m=>(m,0)
def uj(l:Ae M)(p:Bh):(l.find? (fun m=>decide (m.path=p))=Aa/\OU l p=-1)∨∃i,∃h:i<Ajb l,l.find? (fun m=>decide (m.path=p))=J l[i]/\OU l p=(i:H):=by
 unfold OU;by_cases q:l.findIdx (fun m=>decide (m.path=p))<Ajb l
 .refine .inr ⟨_,q,?_,X⟩;rw[List.find?_eq_some_iff_getElem];grind
 .grind
section
variable{w w':Ad}{B vb db:Y}{V V':Vl}{k:Y}
def Zr(h:VAt w B vb db V)(ho:VOk V k)(p:Bh)(hp:Ajb p<=1000000000):Bn prog 53 [.pointer (J ⟨vb,0,Aa⟩),Bl p] w fun v w'=>v=.tuple #[.agg (CC V p).1.cells.toArray,U (((CC V p).2:Y):H)]/\Bf w w':=by
 obtain⟨u,hb,hu⟩:=h.at_;obtain⟨A,c,rfl,_,L⟩:=hu.slice;have a0:=ho.len;refine Bw func53 Z ntmps53 Be Z ?_;refine(O 2) ?_;refine Ma Z Z Z Z ?_;rintro pb w1 a2 ab I;refine(Zn) ?_;rintro tb w2 a1 K G;refine(O 6) ?_;have E:=I.trans G;have z1:=I.size;have h2:=h.ext E;have ao:=hb.ext E;have S:=Xe h2 ho.dev;have y:∀e r,Bf w r->CC V p=(Nz,e)->(Value.tuple #[.agg Nz.cells.toArray,U ((e:Y):H)]=.tuple #[.agg (CC V p).1.cells.toArray,U (((CC V p).2:Y):H)]/\Bf w r):=fun e r hx q=>by grind
 by_cases P:V.broken=Af∨V.D.dead=Af
 .rw[Ai P]at S;have e:CC V p=(Nz,190):=Ai P;refine(Zc S) ?_;rintro _ _⟨rfl,rfl⟩;refine(O 7∘HO 11∘O 5∘Zs K (hlt:=Bv _)) ?_;rintro r n ai;refine(O 2∘DA n) ?_;exact y 190 r (Bu E ai E.size Bx) e
 .rw[Ag P]at S;refine(Zc S) ?_;rintro _ _⟨rfl,rfl⟩;refine(O 7∘Cb 11∘O 5) ?_;have W:=ab.ext G;refine(O 1∘Zc (OF p X w2)) ?_;rintro _ r⟨rfl,g⟩;refine(O 2) ?_;have n:=K.ext g;have al:=ao.ext g;have Q:=E.trans g;refine Zi (fun hc=>?_) fun hc=>?_
  .have e:CC V p=(Nz,140):=by
    unfold CC;rw[Ag P,Ai X]
   refine(O 3∘Zs n (hlt:=Bv _)) ?_;rintro w4 j af;refine(O 2∘DA j) ?_;exact y 140 w4 (Bu Q af Q.size Bx) e
  .refine(O 8∘Zv (by exact Gf Z Z)∘Zc (vw V.mems X p pb A c _ r (L.ext Q) (W.ext g))) ?_;rintro _ w4⟨rfl,t⟩;refine(O 8) ?_;have j:=n.ext t;have a3:=al.ext t;have C:=Q.trans t
   have e0:CC V p=match V.mems.find? (fun m=>decide (m.path=p))with|none=>(Nz,240)|some m=>(m,0):=by
    unfold CC;rw[Ag P,Ag X]
   have N:=uj V.mems p;generalize OU V.mems p=ix at N;refine Zi (fun aj=>?_) fun aj=>?_
   .have e:CC V p=(Nz,240):=by
     rcases N with⟨f,_⟩|⟨i,hi,_,f⟩
     .grind
     .omega
    refine(O 3∘Zs j (hlt:=Bv _)) ?_;rintro T a x;refine(O 2∘DA a) ?_;exact y 240 T (Bu C x C.size Bx) e
   .obtain⟨i,hi,hf,rfl⟩:∃i,∃h:i<Ajb V.mems,V.mems.find? (fun m=>decide (m.path=p))=J V.mems[i]/\ix=(i:H):=by
     grind
    rw[hf]at e0;simp only at e0;rw[e0];obtain⟨b,o,rfl,_,d⟩:=(L.ext C).flat (l:=V.mems) (i:=i) (c:=5) (fun _=>rfl) Bc hi;generalize V.mems[i]=m at d;refine(O 10∘Zv (Dr m.cells d)∘Zs j (hlt:=Bv _)) ?_;rintro T a x;refine(O 2) ?_;replace a:Bk T tb 60 m.cells:=a;refine(DA a) ?_;exact⟨Z,Bu C x C.size Bx⟩
end
def Abu{D:Dv}{gen:H}{l:Ae M}(h:(CR D gen l).2=0):OkE gen l/\OkC l D.cap:=by
 by_cases q:OkE gen l/\OkC l D.cap
 .omega
 .rw[mK q]at h;omega
def ay{V:Vl}{k:Y}(a:VOk V k)(n:H):VOk (CQ V n).1 (k+6)/\(CQ V n).1.mems=V.mems:=by
 unfold CQ;split
 .exact⟨⟨a.dev,a.sm.more (Qf _ _),a.gen,a.next,a.ok,a.len,a.path⟩,Z⟩
 .split
  .exact⟨⟨mL a.dev _ _,mN a.sm _ _,a.gen,a.next,a.ok,a.len,a.path⟩,Z⟩
  .rename_i h;have d:=(Abu (Dk.1 h)).1;have f:=d.low;have e:=d.high;have:=a.gen;exact⟨⟨mL a.dev _ _,mN a.sm _ _,Bg,Bi,a.ok,a.len,a.path⟩,Z⟩
noncomputable def Lt(V:Vl)(p:Bh):Vl×Y:=
 if(CC V p).2≠0 then(V,(CC V p).2)else if(CQ V 2).2≠0 then CQ V 2 else Mk (CQ V 2).1 [⟨2,bare p⟩]
section
variable{w w':Ad}{B vb db:Y}{V V':Vl}{k:Y}
def fU(h:VAt w B vb db V)(x:VOk V k)(hk:k<=800000000)(G:Dy w)(l:0<B)(p:Bh)(hp:Ajb p<=1000000):Bn prog 26 [.pointer (J ⟨vb,0,Aa⟩),Bl p] w fun v w'=>v=U (((Lt V p).2:Y):H)/\VAt w' B vb db (Lt V p).1/\Tm w w' B vty:=by
 obtain⟨j,q⟩:=ay x 2;have C:=Zr h x p X;unfold Lt;generalize(CC V p).2=e at C;generalize(CC V p).1=m at C;refine Bw func26 Z ntmps26 Be Z ?_;refine(O 9∘Zc C) ?_;rintro _ w1⟨rfl,f⟩;refine(O 3∘Zn) ?_;rintro mb w2 E A i;refine(Zs A (hlt:=Bv _)) ?_;rintro P ab y;refine(O 7) ?_;have o:Bf w P:=Bu (f.trans i) y (f.trans i).size (by simp;have:=f.size;omega);have I:=h.ext o;refine Zi (fun he=>?_) fun he=>?_
 .rw[Ai (show e≠0 by omega)];refine(O 5∘Br) ?_;exact⟨Z,I,Tm.Agk o _ _⟩
 .rw[Ag (show ¬e≠0 by omega)];have K:=Aap I x X (G.ext o) 2 Bc;generalize CQ V 2=r at K j q;refine(O 7∘Zc K) ?_;rintro _ N⟨rfl,h4,S⟩;refine(O 7) ?_;have g:Tm w N B vty:=(Tm.Agk o _ _).trans S;refine Zi (fun T=>?_) fun T=>?_
  .rw[Ai (show r.2≠0 by omega)];refine(O 5∘Br) ?_;grind
  .rw[Ag (show ¬r.2≠0 by omega)];refine(O 8∘Zv (by exact Oa (pl:=[(0,1),(1,5)]) (ks:=[0,1]) (zs:=[U 0,Bl [],U 0,U 0,U 0,.int .u32 0]) underlying116 MN Be Z Z Z)) ?_;refine Mb 1 ([(⟨2,bare p⟩:Nt).cells]) Z Z underlying93 MN Z Bc Z Z Z (by repeat' (first|exact Lh _|refine Lg.2 ⟨by rfl,?_⟩)) Bc ?_;rintro nb L D a d;replace a:Bk L nb 116 (CP [⟨2,bare p⟩]):=a;refine(Zc (XI (h4.ext d) j X ((LD G g l).ext d) l [⟨2,bare p⟩] Bi (fun n W=>by rw[CF.1 W];exact⟨⟨by show Ajb p<=_;omega,by show 0<=4294967295;decide⟩,by show Ajb p<=_;omega⟩) (J ⟨nb,0,Aa⟩) 1 (nb+1) (Sl.Agl a (Qh _)) (fun w' t=>Sl.Agl (t.bk a Bc) (Qh _)))) ?_;rintro _ w6⟨rfl,h6,Q⟩;refine(O 2∘Br) ?_;exact⟨Z,h6,g.trans ((Tm.Agk d _ _).trans Q)⟩
end
noncomputable def Ff(V:Vl):H:=open Classical in if OkX (BY V.mems) 4096 then JK (BY V.mems)else 30
noncomputable def MO(V:Vl):Vl×Y:=
 if V.broken=Af∨V.D.dead=Af then(V,190)
 else if((Ajb V.D.now/512:Y):H)<=Ff V then(V,0)
 else if(V.D.cut (Ff V)).2≠0 then({ V with D:=(V.D.cut (Ff V)).1,broken:=Af },(V.D.cut (Ff V)).2)
 else({ V with D:=(V.D.cut (Ff V)).1.sync.1,broken:=V.broken||decide ((V.D.cut (Ff V)).1.sync.2≠0) },(V.D.cut (Ff V)).1.sync.2)
def gr(V:Vl):30<=Ff V/\Ff V<=4096:=by
 unfold Ff;split
 .rename_i d;exact⟨(Yf _).1,gu Bc fun x a=>by have:=d.fit x a;unfold HS at this;omega⟩
 .simp
def sF{D:Dv}{k:Y}(h:Sm D k)(n:H):Sm (D.cut n).1 (k+1):=by
 unfold Dv.cut;split
 .exact h.more (Nf _)
 .split
  .exact h.more (Nf _)
  .exact XW h _
section
variable{w w':Ad}{B vb db:Y}{V V':Vl}{k:Y}
def ot(h:VAt w B vb db V)(f:VOk V k)(hk:k<=800000000):Bn prog 31 [.pointer (J ⟨vb,0,Aa⟩)] w fun v w'=>v=U (((MO V).2:Y):H)/\VAt w' B vb db (MO V).1/\Tm w w' B vty:=by
 have y:=Xe h f.dev;have af:=f.len;have n:=gr V;have ab:=f.dev.now;have ai:=f.dev.cap;refine Bw func31 Z ntmps31 Be Z ?_;refine(O 8) ?_;by_cases q:V.broken=Af∨V.D.dead=Af
 .rw[Ai q]at y;have e:MO V=(V,190):=Ai q;rw[e];refine(Zc y) ?_;rintro _ _⟨rfl,rfl⟩;refine(O 7∘HO 9∘O 6∘Br) ?_;exact⟨Z,h,Tm.refl _ _ _⟩
 .rw[Ag q]at y;have e0:MO V=if((Ajb V.D.now/512:Y):H)<=Ff V then(V,0)else if(V.D.cut (Ff V)).2≠0 then({ V with D:=(V.D.cut (Ff V)).1,broken:=Af },(V.D.cut (Ff V)).2)else({ V with D:=(V.D.cut (Ff V)).1.sync.1,broken:=V.broken||decide ((V.D.cut (Ff V)).1.sync.2≠0) },(V.D.cut (Ff V)).1.sync.2):=Ag q;rw[e0];refine(Zc y) ?_;rintro _ _⟨rfl,rfl⟩;refine(O 7∘Cb 9∘O 7∘Zc (UL h X)) ?_;rintro v1 w1⟨m,K⟩;obtain⟨A1,A,rfl,_,G⟩:=m.slice;have x:=Acr (BY V.mems) (by rw[Mm];omega) A1 A _ w1 G;rw[Mm]at x;have p:(if OkX (BY V.mems) 4096 then JK (BY V.mems)else 30)=Ff V:=by unfold Ff;split<;>rfl
  rw[p]at x;generalize Ff V=z at n x;refine(Zc x) ?_;rintro _ w2⟨rfl,I⟩;refine(O 9) ?_;have C:=K.trans I;have o:=h.ext C;obtain⟨u,hb,hu⟩:=o.at_;refine(O 1∘Zc (Pa o.dev f.dev)) ?_;rintro _ _⟨rfl,rfl⟩;refine(O 3)<|Zi (fun g=>?_) fun g=>?_
  .rw[Ai g];refine(O 4∘Br) ?_;exact⟨Z,o,Tm.Agk C _ _⟩
  .rw[Ag g];have cc:=cut_d o.dev f.dev (f.sm.small X) z X X;have A:=sE f.dev z;have c2:=sF f.sm z;generalize V.D.cut z=r at cc A c2;refine(O 10∘Zc cc) ?_;rintro _ i⟨rfl,Q,E⟩;refine(O 7) ?_;have T:VAt i B vb db { V with D:=r.1 }:=o.dev_tm Q E;have l:Tm w i B vty:=(Tm.Agk C _ _).trans (Tm.vty E);refine Zi (fun he=>?_) fun he=>?_
   .have L:r.2≠0:=X;rw[Ai L];refine(O 6∘Zc (Yj T r.2)) ?_;rintro _ W⟨rfl,t,j⟩;refine(O 2∘Br) ?_;rw[show(({ V with D:=r.1 }:Vl).broken||decide (r.2≠0))=Af by grind]at t;exact⟨Z,t,l.trans j⟩
   .rw[Ag (show ¬r.2≠0 by omega)];have cs:=Tl (T.dev.ext (Bf.drew i)) A (c2.small X);have S:=E.bk hb Bc;obtain⟨s,hs⟩:∃s,s=r.1.sync:=⟨_,Z⟩;rw[<-hs]at cs;rw[<-hs];refine KW.skip (Eo ?_);refine PY (N:=11) (fun w'=>∃(bk:Ar) (u':Ah),Bk w' vb 82 (HA db { V with broken:=bk } u')) Be Z ?_;have d:=(⟨V.broken,u,S.drew⟩:∃(bk:Ar) (u':Ah),Bk i.drew vb 82 (HA db { V with broken:=bk } u'));refine GW.val 0 Z Be Be Be Z Z d (fun w' a=>EX.move Z) ?_;refine GW.val 1 Z Be Be Be Z Z d (fun w' a=>DS Z) ?_;refine GW.val 2 Z Be Be Be Z Z d (fun w' a=>Do (off:=0) underlying82 Z Z VT Z Z) ?_;refine GW.val 3 Z Be Be Be Z Z d (fun w' a=>EX.move Z) ?_;refine GW.val 4 Z Be Be Be Z Z d (fun w' a=>DS Z) ?_;refine GW.val 5 Z Be Be Be Z Z d (fun w' a=>Do (off:=0) underlying82 Z Z VT Z Z) ?_;refine GW.val 6 Z Be Be Be Z Z d (fun w' a=>Do (off:=0) underlying80 Z Z bz Z Z) ?_;refine GW.val 7 Z Be Be Be Z Z d (fun w' a=>Ci underlying26 Z Z (Exists.elim a fun _ h=>Exists.elim h fun _ h=>h.cell_of Z)) ?_;refine GW.call 8 Z Be Z Z Z (cs) ?_;rintro _ W⟨rfl,P,j⟩;refine⟨d.imp fun _ h=>h.imp fun _ h=>j.bk h Bc,fun d=>?_⟩;have t:VAt W B vb db { V with D:=s.1 }:=(T.ext (Bf.drew i)).dev_tm P j;refine(Yc 9 (Yj t s.2)) ?_;rintro _ w5⟨rfl,h5,t5⟩;refine⟨⟨_,h5.at_.imp fun _ h=>h.1⟩,fun d=>?_⟩;refine(Gv [10]∘Yd∘Br) ?_;exact⟨Z,h5,l.trans ((Tm.Agk (Bf.drew i) _ _).trans ((Tm.vty j).trans t5))⟩
end
def Nr(a b:H):Y->Y->Dv->Dv×Y
 |0,_,D=>(D,0)
 |n+1,i,D=>if(D.read (a+i)).2.2≠0 then((D.read (a+i)).1,(D.read (a+i)).2.2)
  else if((D.read (a+i)).1.write (b+i) (D.read (a+i)).2.1).2≠0 then(D.read (a+i)).1.write (b+i) (D.read (a+i)).2.1
  else Nr a b n (i+1) ((D.read (a+i)).1.write (b+i) (D.read (a+i)).2.1).1
def Vl.fail(V:Vl)(D:Dv)(e:Y):Vl×Y:=({ V with D:=D,broken:=Af },e)
noncomputable def No(R:Vl)(c:Dv×Y)(ns:Ae Nt):Vl×Y:=
 if c.2≠0 then R.fail c.1 c.2 else if c.1.sync.2≠0 then R.fail c.1.sync.1 c.1.sync.2 else Mk { R with D:=c.1.sync.1 } ns
def Uj{R:Vl}{c:Dv×Y}{ns:Ae Nt}(h:c.2≠0):No R c ns=R.fail c.1 c.2:=Ai h
def Xd(R:Vl)(D:Dv)(ns:Ae Nt):No R (D,0) ns=if D.sync.2≠0 then R.fail D.sync.1 D.sync.2 else Mk { R with D:=D.sync.1 } ns:=Ag fun h=>h Z
def lW{D:Dv}(h:D.Ok)(i:H):(D.read i).1.Ok:=by
 unfold Dv.read;split
 .exact h
 .split
  .exact h
  .exact⟨h.cap,h.kept,h.now,h.keptM,h.nowM,h.pend⟩
def zK{D:Dv}{k:Y}(h:Sm D k)(i:H):Sm (D.read i).1 (k+1):=by
 unfold Dv.read;split
 .exact h.more (Nf _)
 .split
  .exact h.more (Nf _)
  .exact⟨Nat.succ_le_succ h.calls,TZ h.pend,h.at_,h.keep⟩
def zJ{D:Dv}(i:H):Ajb (D.read i).2.1<=512:=by
 unfold Dv.read;grind
noncomputable def Gu(V:Vl)(p:Bh)(tt:H):Vl×Y:=open Classical in
 if(CC V p).2≠0 then(V,(CC V p).2)
 else if ¬OkX (BY V.mems++[(tt,(CC V p).1.sectors)]) V.D.cap then(V,2)
 else if(CQ V 2).2≠0 then CQ V 2
 else No (CQ V 2).1 (Nr (CC V p).1.start tt (CC V p).1.sectors.toNat 0 (CQ V 2).1.D) [⟨1,{ (CC V p).1 with start:=tt }⟩]
def ku{V:Vl}{p:Bh}(h:(CC V p).2=0):(CC V p).1∈V.mems/\(CC V p).1.path=p:=by
 unfold CC at h ⊢;grind
def QG{l:Ae M}{m:M}(h:m∈l):(m.start,m.sectors)∈BY l:=Cr.2 ⟨m,h,Z⟩
section
variable{w w':Ad}{B vb db:Y}{V V':Vl}{k:Y}
def Zz(h:VAt w B vb db V)(ho:VOk V k)(hk:k<=800000000)(hG:Dy w)(bn:0<B)(p:Bh)(hp:Ajb p<=1000000)(l:H)(t0:-9223372036854775808<=l)(t1:l<=9223372036854775807):Bn prog 30 [.pointer (J ⟨vb,0,Aa⟩),Bl p,U l] w fun v w'=>v=U (((Gu V p l).2:Y):H)/\VAt w' B vb db (Gu V p l).1/\Tm w w' B vty:=by
 obtain⟨A,cd⟩:=ay ho 2;have cm:=Zr h ho p X;have co:=ho.len;have aj:=@ku V p;unfold Gu;generalize(CC V p).2=e at cm aj;generalize(CC V p).1=m at cm aj;refine Bw func30 Z ntmps30 Be Z ?_;refine(O 8∘Zc cm) ?_;rintro _ wa⟨rfl,G⟩;refine(O 3∘Zn) ?_;rintro W wb bq cl bf;refine(Zs cl (hlt:=Bv _)) ?_;rintro wc a0 cf;refine(O 8) ?_;replace a0:Bk wc W 60 m.cells:=a0;have xc:Bf w wc:=Bu (G.trans bf) cf (G.trans bf).size (by simp;have:=G.size;omega);have hc:=h.ext xc;have cq:=ho.dev.cap;refine Zi (fun E=>?_) fun E=>?_
 .rw[Ai (show e≠0 by omega)];refine(O 5∘Br) ?_;exact⟨Z,hc,Tm.Agk xc _ _⟩
 .rw[Ag (show ¬e≠0 by omega)];obtain⟨u,b1⟩:=hc.u;have hb:=b1.bk
  have cs:∀k,u.ownBlock=J k->k≠W:=fun k hk=>by
   obtain⟨_,⟨u0,q1,q2⟩,_⟩:=h
   have e0:u0=u:=by
    have a:=(q1.ext xc).cell_of (i:=3) Z;have b:=hb.cell_of (i:=3) Z;rw[a]at b;exact RZ.inj b
   rw[<-e0]at hk;have:=(q2.lt k hk).2;have:=G.size;omega
  have b9:=Mm V.mems;obtain⟨j0,hX⟩:∃j0,j0=BY V.mems++[(l,m.sectors)]:=⟨_,Z⟩;have b6:Ajb j0=Ajb V.mems+1:=by rw[hX,BA,b9];rfl
  have b5:Eg j0=Eg (BY V.mems)++[xcells (l,m.sectors)].flatten:=by rw[hX,PJ];simp
  rw[<-hX];refine(O 3)<|Lc (fun((_u,wz):Unit×Ad)=>(Bf wc wz,[(0,.pointer (J ⟨vb,0,Aa⟩)),(2,U (l:H)),(7,.pointer (J ⟨W,0,Aa⟩)),(41,.bool (decide ((¬Jg j0 V.D.cap=0))))],wz)) ?_ ?_
  .skip
   refine(Yr 18 (fun w'=>Bf wc w') (Bf.drew wc)) fun d=>(Gv [0,1,2,4,5]∘Yw 6 (he:=by exact fun _ P=>Bp (a0.ext P))∘Gv [7,10,11,12,13]∘Yw 14 (he:=by exact fun _ P=>Bp (hb.ext P)))<|Ye 3 8 ?_ ?_
   .refine(Jc 3 ((UL (hc.ext d) X).mono fun _ _ q=>If (Bo.more q.1 d.size) q.2)) ?_;rintro v3 w3⟨o,ai⟩;refine⟨d.trans ai,fun d=>?_⟩;refine GB 8 1 ([xcells (l,m.sectors)]) Z Be Z Z underlying118 LJ Z Bc Z Z Z (by first|(intro v Q;obtain⟨f,hf,rfl⟩:=Cr.1 Q;rfl)|(simp;done)|(simp;rfl)) Bc ?_;rintro eb w8 bs h8 af;refine⟨d.trans af,fun d=>?_⟩;have o:=o.ext af;refine GW.append 9 0 Z Be Z Z underlying118 LJ Z Bc Z Z (o.more (BE _)) (Src.Agn (m:=1) underlying118 (Sl.Agl h8 h8.lt) Z (We [(l,m.sectors)]) Bc) CA X (BE _) ?_;rintro v9 w9 g ba cc;obtain⟨A9,c9,rfl,_,_⟩:=g.slice;refine⟨d.grown ba fun k hk=>(o.lt k hk).1,fun d=>?_⟩;refine(Yc 15 (Ht (hc.ext d).dev ho.dev)) ?_;rintro _ _⟨rfl,rfl⟩;refine⟨d,fun d=>?_⟩;refine(Yc 16 (by have:=Th j0 X V.D.cap A9 c9 _ w9 (by obtain⟨_,_,e9,_,sl⟩:=g.slice;cases e9;rw[b5];exact sl);rw[b6]at this;exact this)) ?_;rintro _ a4⟨rfl,y⟩;refine⟨d.trans y,fun d=>?_⟩;have g:=g.ext y;refine(Gv [17]∘Yd∘Lm ((),a4)) ?_;exact d
   .refine TC 8 1 ([xcells (l,m.sectors)]) Z Z Z underlying118 LJ Z Bc Z Z Z (by first|(intro v Q;obtain⟨f,hf,rfl⟩:=Cr.1 Q;rfl)|(simp;done)|(simp;rfl)) Bc ?_;rintro eb w8 bs h8 af;refine⟨d.trans af,fun d=>?_⟩;refine(Yc 3 ((UL (hc.ext d) X).mono fun _ _ q=>If (Bo.more q.1 d.size) q.2)) ?_;rintro v3 w3⟨o,ai⟩;refine⟨d.trans ai,fun d=>?_⟩;have h8:=h8.ext ai;refine GW.append 9 0 Z Be Z Z underlying118 LJ Z Bc Z Z (o.more (BE _)) (Src.Agn (m:=1) underlying118 (Sl.Agl h8 h8.lt) Z (We [(l,m.sectors)]) Bc) CA X (BE _) ?_;rintro v9 w9 g ba cc;obtain⟨A9,c9,rfl,_,_⟩:=g.slice;refine⟨d.grown ba fun k hk=>(o.lt k hk).1,fun d=>?_⟩;refine(Yc 15 (Ht (hc.ext d).dev ho.dev)) ?_;rintro _ _⟨rfl,rfl⟩;refine⟨d,fun d=>?_⟩;refine(Yc 16 (by have:=Th j0 X V.D.cap A9 c9 _ w9 (by obtain⟨_,_,e9,_,sl⟩:=g.slice;cases e9;rw[b5];exact sl);rw[b6]at this;exact this)) ?_;rintro _ a4⟨rfl,y⟩;refine⟨d.trans y,fun d=>?_⟩;have g:=g.ext y;refine(Gv [17]∘Yd∘Lm ((),a4)) ?_;exact d
  .rintro⟨_,wz⟩a6;have xz:=xc.trans a6;have hz:=b1.ext a6;have cj:=a0.ext a6;refine Zi (fun N=>?_) fun N=>?_
   .rw[Ai (fun q=>N ((Rp j0 V.D.cap).2 q))];refine(O 4∘Br) ?_;exact⟨Z,hz.at_,Tm.Agk xz _ _⟩
   .have a7:OkX j0 V.D.cap:=(Rp j0 V.D.cap).1 (Dk.1 N);rw[Ag (Dk.2 a7)];have b0:=a7.fit (m.start,m.sectors) (by rw[hX];exact List.mem_append_left _ (QG (aj X).1));have bx:=a7.fit (l,m.sectors) Bg;unfold HS at b0 bx;simp only at b0 bx;have cr:=az hz ho X (hG.ext xz) 2 Bc;have bh:=A.sm;have bi:=A.dev;generalize CQ V 2=R at cr A cd bh bi;refine(O 7∘Zc cr) ?_;rintro _ wd⟨rfl,hd,td⟩;refine(O 7) ?_;have a5:Tm w wd B vty:=(Tm.Agk xz _ _).trans td;have ck:=td.bk cj Bc;refine Zi (fun b8=>?_) fun b8=>?_
    .rw[Ai (show R.2≠0 by omega)];refine(O 5∘Br) ?_;exact⟨Z,hd.at_,a5⟩
    .rw[Ag (show ¬R.2≠0 by omega)];refine(O 9) ?_;obtain⟨n,hn⟩:∃n,n=m.sectors.toNat:=⟨_,Z⟩;rw[<-hn];refine Lo (fun((i,D,wr):Y×Dv×Ad)=>(i<=n/\Nr m.start l n 0 R.1.D=Nr m.start l (n-i) i D/\D.Ok/\Sm D (k+6+2*i)/\VAu wr B vb db { R.1 with D:=D } u/\Bk wr W 60 m.cells/\Tm wd wr B vty,[(0,.pointer (J ⟨vb,0,Aa⟩)),(2,U (l:H)),(7,.pointer (J ⟨W,0,Aa⟩)),(50,U (m.sectors:H)),(51,U i)],wr,n-i)) (0,R.1.D,wd) ?_ ?_
     .exact⟨BE _,Z,bi,bh,hd,ck,Tm.refl _ _ _⟩
     .rintro⟨i,D,wr⟩⟨hi,j,a2,a1,Q,b3,tr⟩;refine(O 5)<|Zi (fun a9=>?_) fun a9=>?_
      .obtain⟨f,hf⟩:∃f,n-i=f+1:=⟨n-i-1,X⟩;rw[hf]at j;rw[Nr]at j;have b2:=Q.bk;have cr:=lV (Q.dev.ext (Bf.drew wr)) a2 (a1.small X) (m.start+i) X X;have c1:=lW a2 (m.start+i);have c2:=zK a1 (m.start+i);have c3:=zJ (D:=D) (m.start+i);generalize D.read (m.start+i)=r at j cr c1 c2 c3;refine(O 9∘Yr 15 (fun w'=>Bk w' vb 82 (HA db { R.1 with D:=D } u)/\Bk w' W 60 m.cells) (If b2.drew b3.drew)) fun d=>(Gv [0,1,2,3,4,5,6,7,8]∘Yc 9 cr) ?_;rintro _ we⟨rfl,al,T⟩;refine⟨⟨T.bk d.1 Bc,T.bk d.2 Bc⟩,fun d=>?_⟩;refine(Gv [10,11,12,13,14]∘Yd∘O 6) ?_;have E:VAu we B vb db { R.1 with D:=r.1 } u:=(Q.ext (Bf.drew wr)).dev_tm al T;have K:Tm w we B vty:=a5.trans (tr.trans ((Tm.Agk (Bf.drew wr) _ _).trans (Tm.vty T)));refine Zi (fun cg=>?_) fun cg=>?_
       .have a3:r.2.2≠0:=X;rw[Ai a3]at j;rw[j,Uj (c:=(r.1,r.2.2)) a3];refine(O 6∘Zc (ON E r.2.2)) ?_;rintro _ I⟨rfl,C,tf⟩;refine(O 2∘Br) ?_;rw[show(({ R.1 with D:=r.1 }:Vl).broken||decide (r.2.2≠0))=Af by grind]at C;exact⟨Z,C.at_,K.trans tf⟩
       .rw[Ag (show ¬r.2.2≠0 by omega)]at j;have cw:=Wa al c1 (c2.small X) (l+i) X X r.2.1 X;have c4:=PI c1 (l+i) r.2.1;have c5:=Rx c2 (l+i) r.2.1;generalize r.1.write (l+i) r.2.1=s at j cw c4 c5;refine(O 7∘Zv (Bp d.1)∘O 4∘Zc cw) ?_;rintro _ I⟨rfl,ch,tf⟩;refine(O 7) ?_;have C:VAu I B vb db { R.1 with D:=s.1 } u:=E.dev_tm ch tf;have S:Tm w I B vty:=K.trans (Tm.vty tf);refine Zi (fun bb=>?_) fun bb=>?_
        .have x:s.2≠0:=X;rw[Ai x]at j;rw[j,Uj x];refine(O 6∘Zc (ON C s.2)) ?_;rintro _ wg⟨rfl,L,tg⟩;refine(O 2∘Br) ?_;rw[show(({ R.1 with D:=s.1 }:Vl).broken||decide (s.2≠0))=Af by rw[AL x,Bool.or_true]]at L;exact⟨Z,L.at_,S.trans tg⟩
        .rw[Ag (show ¬s.2≠0 by omega)]at j;refine(O 6)<|Lb ((i+1),s.1,I) ?_;exact⟨X,Bg,c4,c5.more X,C,tf.bk d.2 Bc,tr.trans ((Tm.Agk (Bf.drew wr) _ _).trans ((Tm.vty T).trans (Tm.vty tf)))⟩
      .rw[show n-i=0 by omega]at j;rw[Nr]at j;rw[j,Xd];have b2:=Q.bk;have b7:=Tl Q.dev a2 (a1.small X);have c6:=aV a2;have c7:=aW a1;generalize D.sync=s at b7 c6 c7;refine(O 9∘Zc b7) ?_;rintro _ we⟨rfl,al,T⟩;refine(O 7) ?_;have E:VAu we B vb db { R.1 with D:=s.1 } u:=Q.dev_tm al T;have K:Tm w we B vty:=a5.trans (tr.trans (Tm.vty T));refine Zi (fun bb=>?_) fun bb=>?_
       .have x:s.2≠0:=X;rw[Ai x];refine(O 6∘Zc (ON E s.2)) ?_;rintro _ wg⟨rfl,L,tg⟩;refine(O 2∘Br) ?_;rw[show(({ R.1 with D:=s.1 }:Vl).broken||decide (s.2≠0))=Af by rw[AL x,Bool.or_true]]at L;exact⟨Z,L.at_,K.trans tg⟩
       .rw[Ag (show ¬s.2≠0 by omega)];have b4:=T.bk b3 Bc;refine(O 5∘Zt b4 (hlt:=(by decide:(1:Y)<5))) ?_;rintro I bc a8;refine(O 2) ?_;replace bc:Bk I W 60 ({ m with start:=l }:M).cells:=bc;have bm:B<=W:=BC (BC h.dev.lt.1 (Qg h.dev.lt.2)) (BC G.size bq);have t:=Tm.set b4 a8 bm;have C:VAu I B vb db { R.1 with D:=s.1 } u:=⟨E.dev.tm t Bc Bc Bc Bc Bc Bc,t.bk E.bk Bc,E.own.mo a8 fun k hk=>by grind,E.low⟩;have S:Tm w I B vty:=Tm.fresh K a8 (by simp;have:=G.size;omega);have ca:VOk { R.1 with D:=s.1 } (k+6+2*i+1):=⟨c6,c7,A.gen,A.next,A.ok,A.len,A.path⟩;have bl:=aj X;have bj:=ho.ok m bl.1;have ce:=ho.path m bl.1;have cn:Dy I:=LD hG S bn;refine(Yr 8 (fun w'=>Bk w' W 60 ({ m with start:=l }:M).cells) bc.drew) fun d=>(Gv [0,1,2]∘Yw 3 (he:=by exact fun _ P=>BW P)∘Yw 4 (he:=by exact fun _ _=>Oa (pl:=[(0,1),(1,5)]) (ks:=[0,1]) (zs:=[U 0,Bl [],U 0,U 0,U 0,.int .u32 0]) underlying116 MN Be Z Z Z)) ?_;refine GB 5 1 ([(⟨1,{ m with start:=l }⟩:Nt).cells]) Z Be Z Z underlying93 MN Z Bc Z Z Z (by repeat' (first|exact Lh _|refine Lg.2 ⟨by first|rfl|assumption,?_⟩)) Bc ?_;rintro nb wg cp ao ab;refine⟨d.ext ab,fun d=>?_⟩;replace ao:Bk wg nb 116 (CP [⟨1,{ m with start:=l }⟩]):=ao;refine(Yc 6 (XI ((C.ext (Bf.drew I)).ext ab).at_ ca X ((cn.ext (Bf.drew I)).ext ab) bn [⟨1,{ m with start:=l }⟩] Bi (fun n hn=>by rw[CF.1 hn];exact⟨⟨bj.path,bj.sum⟩,ce⟩) (J ⟨nb,0,Aa⟩) 1 (nb+1) (Sl.Agl ao (Qh _)) (fun w' t=>Sl.Agl (t.bk ao Bc) (Qh _)))) ?_;rintro _ wh⟨rfl,cb,th⟩;refine⟨th.bk d Bc,fun d=>?_⟩;refine(Gv [7]∘Yd∘Br) ?_;exact⟨Z,cb,S.trans ((Tm.Agk (Bf.drew I) _ _).trans ((Tm.Agk ab _ _).trans th))⟩
end
end
section
open Rec Pth Dsk Wal
def TxS(w:Ad)(C:Y):Bm->Ae (Ae Nt)->Prop
 |[],[]=>True
 |v::vs,l::ls=>(∃A c,v=.slice A (Ajb l) c/\Sl w C A (CP l))/\TxS w C vs ls
 |_,_=>False
def TxS.at_{w:Ad}{B:Y}:∀{vs:Bm} {ls:Ae (Ae Nt)},TxS w B vs ls->∀(i:Y) (hi:i<Ajb ls),∃A c,vs[i]? =J (.slice A (Ajb (ls[i])) c)/\Sl w B A (CP ls[i])
 |[],[],_,i,hi=>by grind
 |v::vs,l::ls,⟨⟨A,c,e,h1⟩,h2⟩,0,hi=>⟨A,c,Bg,h1⟩
 |v::vs,l::ls,⟨h1,h2⟩,i+1,hi=>by
  obtain⟨A,c,h3,h4⟩:=TxS.at_ h2 i Bg;grind
 |[],_::_,h,_,_=>h.elim
 |_::_,[],h,_,_=>h.elim
def HN.txs{w:Ad}{B:Y}:∀{vs:Bm} {ls:Ae (Ae Nt)},HN w B vs ls->TxS w w.heap.size vs ls
 |[],[],_=>trivial
 |v::vs,l::ls,⟨h1,h2⟩=>by
  obtain⟨A,c,e,_,h3⟩:=h1.slice;exact⟨Bg,HN.txs h2⟩
 |[],_::_,h=>h.elim
 |_::_,[],h=>h.elim
end
section
attribute [local irreducible] OW KW QW EX GW NV
open Pth Rec Srt Dsk Wal Cat
noncomputable def DJ(l:Ae M)(ls:Ae (Ae Nt)):Ae M:=ls.foldl Dl l
def YB(l:Ae M)(a:Ae (Ae Nt))(ns:Ae Nt):DJ l (a++[ns])=Dl (DJ l a) ns:=by
 unfold DJ;simp
structure MsOk(l:Ae M):Prop where
 ok:∀m∈l,m.Ok
 len:Ajb l<=1000
 path:∀m∈l,Ajb m.path<=2000000
inductive Finds(D:Dv):H->Ae M->Dv->Prop
 |none:(Hw D).2.2=230->(Hw D).2.1=[]->Ajb D.now/512<=5->Finds D (-1) [] (CU D)
 |some {g:H} {l:Ae M} {ls:Ae (Ae Nt)} {nx:Y}:Hw D=(g,l,0)->JQ (CU D) g=((ls,nx),0)->0<=g->g<4611686018427387904->(∀i,i<=Ajb ls->MsOk (DJ l (ls.take i))/\(1<=i->Kz (DJ l (ls.take i)) D.cap=0))->
  (∀ns∈ls,Ajb ns<=1000/\∀n∈ns,n.mem.Ok/\Ajb n.mem.path<=2000000)->Ajb ls<=1000->Finds D g (DJ l ls) (Fk (CU D) g)
def Finds.fine{D d:Dv}{g:H}{a:Ae M}(h:Finds D g a d):MsOk a/\-1<=g/\g<4611686018427387904:=by
 cases h with
 |none h1 h2 h3=>exact⟨⟨Bi,Bi,Bi⟩,Bc,Bc⟩
 |some h1 h2 h3 h4 h5 h6 h7=>
  have:=(h5 _ (Bv _)).1;grind
def Finds.dev{D a:Dv}{g:H}{f:Ae M}{k:Y}(h:Finds D g f a)(j:D.Ok)(i:Sm D k):a.Ok/\Sm a (k+31):=by
 have e:=jQ j;have d:=jR i;cases h with
 |none _ _ _=>exact⟨e,d.more X⟩
 |some _ _ _ _ _ _ _=>exact⟨zX e _,(zY d _).more X⟩
def lf{w:Ad}{B o k:Y}{D C:Dv}{g:H}{f:Ae M}(h:Cm w B o D)(hD:D.Ok)(hs:Sm D k)(hk:k<=800000000)(hG:Dy w)(P:0<B)(b0:30<D.cap)(hl:D.dead=Aj)(hf:Finds D g f C):
 Bn prog 15 [.pointer (J ⟨o,0,Aa⟩)] w fun v w'=>((CR C (g+1) f).2=0/\(∃vb,v=.tuple #[.pointer (J ⟨vb,0,Aa⟩),U ((0:Y):H)]/\VAt w' B vb o ⟨(CR C (g+1) f).1,g+1,0,f,Aj⟩)∨(CR C (g+1) f).2≠0/\v=.tuple #[.pointer Aa,U (((CR C (g+1) f).2:Y):H)]/\Cm w' B o (CR C (g+1) f).1)/\Tm w w' B Cj:=by
 obtain⟨a7,b6,b5⟩:=hf.fine;have a:=h.lt;have a5:=jQ hD;have bi:=jR hs;refine Bw func15 Z ntmps15 Be Z ?_;refine(O 10∘Zc (Ht h hD)) ?_;rintro _ _⟨rfl,rfl⟩;refine(O 3∘Cb 13∘O 4∘Zc (Ht h hD)) ?_;rintro _ _⟨rfl,rfl⟩;refine(O 3∘Cb 17∘O 4) ?_;have cd:=Qy h hD;rw[hl]at cd;refine(Zc cd) ?_;rintro _ _⟨rfl,rfl⟩;refine(O 8) ?_;have cl:=rR hD hs X B o w hG P h;obtain⟨V,bc⟩:=hf.dev hD hs;obtain⟨L,hL⟩:∃L,L=Hw D:=⟨_,Z⟩;rw[<-hL]at cl;obtain⟨lg,p,le⟩:=L;simp only at cl;have b2:(CU D).now=D.now:=by unfold CU;split<;>rfl
 have bn:(CU D).cap=D.cap:=by unfold CU;split<;>rfl
 refine(Zc cl) ?_;rintro _ w1⟨⟨u,rfl,x⟩,T,t1⟩;refine(O 9)<|Lc (fun((u2,E):Ah×Ad)=>(Bo E B 60 5 u2 (Ajb f) (DK f)/\Cm E B o C/\Tm w E B Cj,[(0,.pointer (J ⟨o,0,Aa⟩)),(4,U (g:H)),(5,u2)],E)) ?_ ?_
 .have bj:=hf;rcases bj with⟨e1,e2,e3⟩|@⟨_,l0,d,nx,e1,e2,e3,e4,e5,e6,e7⟩
  .rw[<-hL]at e1 e2;have e1:le=230:=e1;have e2:p=[]:=e2;subst e1 e2;refine(O 6∘Zoa 60 (e:=Z)∘O 1∘Zc (Pa T a5)) ?_;rintro _ _⟨rfl,rfl⟩;refine(O 4∘Cb 57 (e:=by grind)∘O 7∘HO 65 (e:=Z)∘O 5∘Lm (u,w1)) ?_;exact⟨Bo.more x (BC a.1 (Qg a.2)),T,t1⟩
  .rw[<-hL]at e1
   obtain⟨rfl,rfl,rfl⟩:lg=g/\p=l0/\le=0:=by
    grind
   refine(O 6∘IQ 60∘O 13∘Cb 65∘O 7∘Cb 68∘O 5) ?_;have cr:=zV a5 bi X B o lg w1 T;rw[e2]at cr;refine(Zc cr) ?_;rintro _ w3⟨⟨vt,vs,rfl,bf,ao⟩,Q,t3⟩;refine(O 14) ?_;obtain⟨A3,c3,rfl,_,a3⟩:=bf.slice;refine(Cb 38∘O 10) ?_;have b1:Ajb vs=Ajb d:=ao.len;have al:=ao.txs;have G:=t1.trans t3;have b7:DJ p (d.take 0)=p:=rfl;have ba:=Ht Q V;have y:(Fk (CU D) lg).cap=D.cap:=bn;rw[y]at ba;have zb:B<=w3.heap.size:=BC a.1 (BC (Qg a.2) G.size);have N:=Bo.more (t3.own x Bc) (BC a.1 (Qg a.2));refine Lo (fun((i,um,wr):Y×Ah×Ad)=>(i<=Ajb d/\Bo wr B 60 5 um (Ajb (DJ p (d.take i))) (DK (DJ p (d.take i)))/\Bf w3 wr,[(0,.pointer (J ⟨o,0,Aa⟩)),(4,U (lg:H)),(5,um),(40,.slice A3 (Ajb d) c3),(41,U ((Ajb d:Y):H)),(42,U i)],wr,Ajb d-i)) (0,u,w3) ?_ ?_
   .exact⟨BE _,N,Bf.refl _⟩
   .rintro⟨i,um,wr⟩⟨hi,q,r⟩;refine(O 5)<|Zi (fun m=>?_) fun m=>?_
    .obtain⟨An,cn,aj,a0⟩:=al.at_ i m;obtain⟨b3,o3,rfl,_,bq⟩:=(a3.ext r).at_ X;have t:=a0.ext r;obtain⟨q1,q2⟩:=e6 _ (BM m);obtain⟨m1,_⟩:=e5 i hi;obtain⟨W,m3⟩:=e5 (i+1) X;have j:DJ p (d.take (i+1))=Dl (DJ p (d.take i)) d[i]:=by rw[(CS m).symm,YB]
     rw[j]at W m3;have a8:=bq i _ aj;have a9:Dy wr:=(LD hG G P).ext r;generalize b4:d[i]=ns at aj a0 t a8 q1 q2 W m3 j;generalize DJ p (d.take i)=ml at q m1 W m3 j;obtain⟨Am,bx,rfl,_,a1⟩:=q.slice;refine(O 6∘Zv (Ca a8)∘O 6∘Zc (bH ml m1.path (by have:=m1.len;omega) ns (fun n hn=>(q2 n hn).2) X Am An bx cn _ _ wr a9 a1 t)) ?_;rintro v4 w4⟨af,a4,l,K⟩;refine(O 6) ?_;have ha:=Un a4;rw[ha]at W m3 j;obtain⟨A4,c4,rfl,_,a2⟩:=l.slice;refine(Zc (Ht ((Q.ext r).ext K) V)) ?_;rintro _ _⟨rfl,rfl⟩;refine(Zc (Uw af W.ok (by have:=W.len;omega) _ A4 c4 _ w4 (a9.ext K) a2)) ?_;rintro _ w5⟨rfl,ai⟩;refine(O 2∘Cb 53 (e:=by exact fun h=>h (by rw[y];exact m3 X))∘O 7)<|Lb ((i+1),(.slice A4 (Ajb af) c4:Ah),w5) ?_;refine⟨m,?_,r.trans (K.trans ai)⟩;rw[j];exact Bo.more (l.ext ai) (BC zb r.size)
    .obtain rfl:i=Ajb d:=X;rw[Dq (Bv _)]at q;refine(O 6∘Cb 56∘O 3∘Lm (um,wr)) ?_;exact⟨q,Q.ext r,G.trans (Tm.Agk r _ _)⟩
 .rintro⟨u2,E⟩⟨ho,bl,tz⟩;obtain⟨A,c,rfl,_,bb⟩:=ho.slice;have cs:=mM V bc X B o (g+1) X X f (by have:=a7.len;omega) a7.ok A c _ E (LD hG tz P) bl bb;generalize CR C (g+1) f=S at cs;have zw:w.heap.size<=E.heap.size:=tz.size;refine(O 7∘Zc cs) ?_;rintro _ w8⟨rfl,bm,t8⟩;refine(O 7) ?_;have ab:=tz.trans t8;refine Zi (fun he=>?_) fun he=>?_
  .refine(O 6∘BG) ?_;grind
  .refine(O 8∘Zv (by exact Oa (pl:=[(0,5)]) (ks:=[0]) (zs:=[.pointer Aa,U 0,U 0,.slice Aa 0 0,.bool Aj]) underlying82 ti82 Be Z Z Z)) ?_;refine Dz Z Z Z ?_;rintro vb w9 a6 bs I;refine(O 3∘BG) ?_;have bh:=t8.own ho Bc;have e0:S.2=0:=X;exact⟨.inl ⟨e0,vb,Z,⟨bm.ext I,⟨_,bs,bh.ext I⟩,BC a.1 (BC (Qg a.2) (BC ab.size a6))⟩⟩,ab.trans (Tm.Agk I _ _)⟩
def yC{w:Ad}{B e:Y}{D:Dv}(h:Cm w B e D)(a:D.Ok)(d:30<D.cap)(hl:D.dead=Af):
 Bn prog 15 [.pointer (J ⟨e,0,Aa⟩)] w fun v w'=>v=.tuple #[.pointer Aa,U ((190:Y):H)]/\w=w':=by
 refine Bw func15 Z ntmps15 Be Z ?_;refine(O 10∘Zc (Ht h a)) ?_;rintro _ _⟨rfl,rfl⟩;refine(O 3∘Cb 13∘O 4∘Zc (Ht h a)) ?_;rintro _ _⟨rfl,rfl⟩;refine(O 3∘Cb 17∘O 4) ?_;have f:=Qy h a;rw[hl]at f;refine(Zc f) ?_;rintro _ _⟨rfl,rfl⟩;refine(O 8∘BG) ?_;exact⟨Z,Z⟩
end
section
attribute [local irreducible] OW KW QW EX GW NV
open Pth Rec Srt Dsk Wal Cat Tar
def xL(w:Ad)(p:AC)(n:Y):Mo w (w.freeze p n) [p.block]:=by
 unfold World.freeze;split
 .exact Mo.refl _ _
 .exact⟨Z,Z,Z,Bi,fun k _ a=>by
   grind⟩
def rD(B b:Y)(l:Bh)(w:Ad)(h:Bd w B b l)(h0:l≠[])(j:Ajb l<=140737488355328)(E:B<=w.heap.size):
 Bn prog 51 [.pointer (J ⟨b,0,Aa⟩)] w fun r w'=>r=Bl l/\Below B w w'/\Tm w w' B (fun T=>T==5):=by
 obtain⟨y,p,v,C,n,D,d⟩:=h;refine Bw func51 Z ntmps51 Be Z ?_;refine(O 5) ?_;have f:Ajb l≠0:=fun z=>h0 (Ih z);have a:=d.2;rcases a with⟨_,o⟩|⟨g,A,rest,rfl,m,e,i,x,t⟩
 .exact AI o f
 .refine Kg 10 Be Be<|HW.val Z Z (EX.move Z)<|HW.val Z Z (DS Z)<|HW.val Z Z (Do (off:=1) underlying102 Z Z Rt Z Z)<|HW.val Z Z (Ci underlying23 Z Z (n.cell_of Z))<|HW.val Z Z (cS X Z)<|HW.val Z Z (EX.move Z)<|HW.val Z Z (DS Z)<|HW.val Z Z (Do (off:=1) underlying102 Z Z Rt Z Z)<|HW.val Z Z (Ci underlying23 Z Z (n.cell_of Z))<|HW.val Z Z (PS underlying23 Z)<|HW.tail<|(Zv (by exact cU (g:=g) (l:=l) (rest:=rest) underlying157 Be (e.drewN _) h0 X Z Z)∘O 2∘Br) ?_;exact⟨Z,Lib.below_freeze (Uo (Below.refl B w) _) (p:=⟨g,0,Aa⟩) m _,(Tm.Agk (Bf.drewN w _) _ _).trans ⟨[g],xL _ ⟨g,0,Aa⟩ _,fun k q=>by rw[CF.1 q];exact⟨m,_,_,e.drewN _,Z⟩⟩⟩
def rq(b n:Y)(p:Ah)(A:Aw AC)(c:Y)(w:Ad)(a:Bk w b 102 [p,.slice A n c]):Bn prog 63 [.pointer (J ⟨b,0,Aa⟩)] w fun v w'=>v=U (n:H)/\w=w':=by
 refine Bw func63 Z ntmps63 (by rfl) Z ?_;refine(O 13∘Br) ?_;simp
def Bd.mo{w w':Ad}{B b:Y}{l:Bh}{S:Bj}(h:Bd w B b l)(hm:Mo w w' S)(j:∀k∈S,k<B):Bd w' B b l:=by
 obtain⟨i,p,v,g,f,e,a⟩:=h;exact⟨i,p,v,g,f.mo hm (fun q=>by grind),e,Bo.mo a hm fun k d q=>by have:=(a.lt k d).1;grind⟩
def dvCs(D:Dv)(vk vn vp vq:Ah):Bm:=[U (D.cap:H),vk,vn,vp,U (D.at_:H),vq,.bool D.dead,U (D.calls:H)]
def aH(s:Bh)(a i:Y)(h:(a+i+1)*512<=Ajb s):(s.drop (a*512)).take ((i+1)*512)=(s.drop (a*512)).take (i*512)++BT s (a+i):=by
 unfold BT;have:=List.take_add (l:=s.drop (a*512)) (i:=i*512) (j:=512);rw[show i*512+512=(i+1)*512 by omega,Gj,show a*512+i*512=(a+i)*512 by omega]at this;omega
structure Stands(D:Dv)(m:M)(x:En):Prop where
 fits:Fits x
 start:0<=m.start
 sectors:0<=m.sectors
 size:m.size=(Ajb x.data:H)
 sum:m.sum=Fc x.data
 len:m.sectors.toNat*512=Ajb (Cl x)
 now:(D.now.drop (m.start.toNat*512)).take (m.sectors.toNat*512)=Cl x
section
variable{w w':Ad}{B vb db:Y}{V V':Vl}{k:Y}
def gw(h:VAt w B vb db V)(ho:VOk V k)(hk:k<=800000000)(hG:Env w)(b5:∀w',Tm w w' B vty->Env w')(p x:Bh)(m:M)(hm:CC V p=(m,0))(f:Stands V.D m ⟨p,x⟩)(cl:¬(V.broken=Af∨V.D.dead=Af)):
 Bn prog 28 [.pointer (J ⟨vb,0,Aa⟩),Bl p] w fun v w'=>v=.tuple #[Bl x,U ((0:Y):H)]/\VAt w' B vb db { V with D:=Dh V.D m.sectors.toNat }/\Tm w w' B vty:=by
 have b8:V.D.dead=Aj:=by
  rcases e:V.D.dead with _|_
  .rfl
  .grind
 have b6:=JN f.fits;have ch:=ho.dev.cap;have cd:=ho.dev.now;obtain⟨n,hn⟩:∃n,n=m.sectors.toNat:=⟨_,Z⟩;obtain⟨a,ha⟩:∃a,a=m.start.toNat:=⟨_,Z⟩;have h1:=f.start;have h2:=f.sectors;have h3:=f.len;have h4:=f.now;rw[<-hn]at h3 h4;rw[<-ha]at h4
 have co:(a+n)*512<=Ajb V.D.now:=by
  have:=Av DZ h4;rw[BZ,CM]at this;omega
 have a7:=f.size;have a8:=f.sum;have ck:Ajb p<=120:=(Qv f.fits.path).2.2.1;have cj:Ajb x<=8192:=f.fits.data;simp only at a7 a8;have cm:=Zr h ho p X;rw[hm]at cm;simp only at cm;rw[<-hn];refine Bw func28 Z ntmps28 Be Z ?_;refine(O 9∘Zc cm) ?_;rintro _ wa⟨rfl,a0⟩;refine(O 3∘Zn) ?_;rintro mb wb cf b9 a5;refine(Zs b9 (hlt:=Bv _)) ?_;rintro C t b4;refine(O 8) ?_;replace t:Bk C mb 60 m.cells:=t;have xc:Bf w C:=Bu (a0.trans a5) b4 (a0.trans a5).size (by simp;have:=a0.size;omega);obtain⟨u,L⟩:=(h.ext xc).u;refine(Cb 21∘O 4∘Zn) ?_;rintro bb wd ba bj K;refine(O 5) ?_;have cn:Bd wd C.heap.size bb []:=Bd.new ba bj;obtain⟨vk,vn,vp,vq,vs,d⟩:=L.dev;have lm:=t.lt;have ld:=L.dev.lt;have lv:=L.bk.lt;have zc:=K.size;have aj:vb≠db:=L.bk.ne d.cells Bc;have al:mb≠db:=t.ne d.cells Bc;obtain⟨E,hE⟩:∃E,E=Cl ⟨p,x⟩:=⟨_,Z⟩;rw[<-hE]at h3 h4 b6;refine(Zv (Bp (t.ext K))∘O 3)<|Lo (fun((i,wr):Y×Ad)=>(i<=n/\Bd wr C.heap.size bb (E.take (i*512))/\Bk wr db 85 (dvCs (Dh V.D i) vk vn vp vq)/\Mo C wr [db],[(0,.pointer (J ⟨vb,0,Aa⟩)),(1,Bl (p)),(6,.pointer (J ⟨mb,0,Aa⟩)),(8,.pointer (J ⟨bb,0,Aa⟩)),(24,U (m.sectors:H)),(25,U i)],wr,n-i)) (0,wd) ?_ ?_
 .exact⟨BE _,Bg,d.cells.ext K,Mo.Agk K _⟩
 .rintro⟨i,wr⟩⟨hi,A,bh,r⟩;have bc:Dev wr B db (Dh V.D i) vk vn vp vq vs:=Dev.after d.lo d.cells r bh d.kept d.now d.apart d.pend d.chs d.keep;have bx:=L.bk.mo r (by simpa using aj);have b2:=t.mo r (by simpa using al);have zr:=r.size;refine(O 5)<|Zi (fun a1=>?_) fun a1=>?_
  .have hj:a+i<(Dh V.D i).now.length/512:=by
    show a+i<Ajb V.D.now/512;omega
   have cr:=lX (bc.ext (Bf.drew wr)) (SV ho.dev i) ((Vy ho.sm i).small X) b8 hj;rw[show(((a+i:Y)):H)=m.start+(i:H) by omega,Vx]at cr;have o:=aH V.D.now a i Bg
   have b1:Ajb (BT V.D.now (a+i))=512:=by
    have:=Ud 512 (show a+i+1<=a+n by omega);unfold BT;rw[BZ,CM];omega
   have a6:∀j,j<=n->E.take (j*512)=(V.D.now.drop (a*512)).take (j*512):=fun j hj=>by
    grind
   rw[<-a6 i hi,<-a6 (i+1) X]at o;have cg:Ajb (E.take (i*512))<=13000000:=by rw[BZ];omega
   have bn:(Dh V.D i).now=V.D.now:=rfl;rw[bn]at cr;generalize BT V.D.now (a+i)=sc at cr o b1;refine(O 9∘Yr 15 (fun w'=>Bk w' vb 82 (HA db V u)/\Bk w' mb 60 m.cells) (If bx.drew b2.drew)) fun G=>(Gv [0,1,2,3,4,5,6,7,8]∘Yc 9 cr) ?_;rintro _ we⟨rfl,b7,N⟩;refine⟨⟨G.1.mo N (by simpa using aj),G.2.mo N (by simpa using al)⟩,fun G=>?_⟩;refine(Gv [10,11,12,13,14]∘Yd∘O 6) ?_;have T:Mo C we [db]:=(r.trans (Mo.Agk (Bf.drew wr) _)).trans N;have bi:Bd we C.heap.size bb (E.take (i*512)):=(A.ext (Bf.drew wr)).mo N Bg;refine(Cb 42∘O 4∘Zc (bN C.heap.size bb (E.take (i*512)) sc we bi (fun q=>by grind) X T.size)) ?_;rintro _ wf⟨⟨_,rfl⟩,ai,af,_⟩;refine(O 6) ?_;rw[<-o]at ai;refine Lb ((i+1),wf) ?_;exact⟨X,ai,b7.cells.low af X,Mo.fresh (S:=[db]) (T.low af) (fun k hk _=>hk)⟩
  .obtain rfl:i=n:=X;rw[Dq X]at A;have cc:E≠[]:=fun q=>by grind
   have a2:=A;obtain⟨_,pp,pv,_,bl,_,a9⟩:=a2;obtain⟨Ab,cb,rfl,_,_⟩:=a9.slice;have bq:=fun w hG=>Acy ⟨p,x⟩ f.fits [] Bg w hG;rw[List.append_nil,<-hE]at bq;refine(O 3∘Zc (rD C.heap.size bb E wr A cc X r.size)) ?_;rintro _ wg⟨rfl,ab,b0⟩;have Q:Mo C wg [db]:=r.low ab;have tm:∀w',Mo C w' [db]->Tm w w' B vty:=fun w' hm=>(Tm.Agk xc _ _).trans ⟨[db],hm,fun k hk=>by rw[CF.1 hk];exact⟨d.lo,_,_,d.cells,Bc⟩⟩;refine(Zc (bq wg (b5 wg (tm wg Q)))) ?_;rintro _ wh⟨rfl,ao⟩;refine(O 4∘Zn) ?_;rintro xb wi ce a4 a3;refine(Zs a4 (hlt:=Bv _)) ?_;rintro wj g b3;refine(O 5) ?_;replace g:Bk wj xb 64 [Bl p,Bl x]:=g;have I:Bf wg wj:=Bu (ao.trans a3) b3 (ao.trans a3).size (by simp;have:=ao.size;omega);have P:Mo C wj [db]:=Q.trans (Mo.Agk I _);have W:=t.mo P (by simpa using al);have bm:=(b0.bk bl Bc).ext I;refine(Yr 29 (fun w'=>Bf wj w') (Bf.drew wj)) fun G=>(Gv [0,1,2]∘Nl 54∘Gv [3]∘Yw 4 (he:=by exact fun _ l=>Bp (g.ext l))∘Gv [5,6,7,8]∘Nl 60∘Gv [9]∘Yw 10 (he:=by exact fun _ l=>Bp (g.ext l))∘Gv [11,12]∘Yw 13 (he:=by exact fun _ l=>Bp (W.ext l))∘Gv [14,15,16]∘Nl 68 (e:=by exact fun h=>h a7.symm)∘Gv [17]∘Yw 18 (he:=by exact fun _ l=>Bp (g.ext l))∘Gv [20]∘Yw 21 (he:=by exact fun _ l=>Bp (W.ext l))∘Yc 19 (YW x X _)) ?_;rintro _ wk⟨rfl,bs⟩;refine⟨G.trans bs,fun G=>?_⟩;refine(Gv [22,23,24]∘Nl 76 (e:=by exact fun h=>h (by rw[a8]))∘Gv [25]∘Yc 26 (rq bb (Ajb E) pp Ab cb _ (bm.ext G))) ?_;rintro _ _⟨rfl,rfl⟩;refine⟨G,fun G=>?_⟩;refine(Gv [27,28]∘Yd∘Cb 80∘O 5∘Zv (Bp (g.ext G))∘O 3∘BG) ?_;have y:=P.trans (Mo.Agk G _);refine⟨Z,⟨?_,⟨u,L.bk.mo y (by simpa using aj),L.own.mo y fun k hk=>?_⟩,L.low⟩,tm _ y⟩
   .have bf:Bk wk db 85 (dvCs (Dh V.D i) vk vn vp vq):=((bh.low ab X).ext I).ext G;exact⟨vk,vn,vp,vq,vs,Dev.after d.lo d.cells y bf d.kept d.now d.apart d.pend d.chs d.keep⟩
   .obtain⟨_,l',ca⟩:=L.own.blkT k hk;simpa using ca.ne d.cells Bc
end
end
section
open Pth Rec Srt Dsk Wal Cat Tar
def Eu(x:En):Nt:=⟨1,⟨x.path,0,0,(Ajb x.data:H),Fc x.data⟩⟩
def DC(x:En)(p:Xt):Nt:=⟨1,⟨x.path,p.1,p.2,(Ajb x.data:H),Fc x.data⟩⟩
noncomputable def Cc(x:En):H:=((Ajb (Cl x)/512:Y):H)
def Fy:Ae En->Y
 |[]=>0
 |x::r=>if Cw x.path≠0 then 140 else if 8192<Ajb x.data then 3 else Fy r
noncomputable def Fj(cap:H)(E0:Ae Xt):Ae Xt->Ae En->Ae Xt×Y
 |ps,[]=>(ps,0)
 |ps,x::r=>if(Ez (E0++ps) cap (Cc x)).2≠0 then([],(Ez (E0++ps) cap (Cc x)).2)else Fj cap E0 (ps++[((Ez (E0++ps) cap (Cc x)).1,Cc x)]) r
def EE(s:Bh):Ae (Bh):=(BF (Ajb s/512)).map fun k=>(s.drop (k*512)).take 512
noncomputable def writeX:Dv->Ae (Xt×En)->Dv×Y
 |D,[]=>(D,0)
 |D,(p,x)::r=>if(writes D p.1.toNat (EE (Cl x))).2≠0 then writes D p.1.toNat (EE (Cl x))else writeX (writes D p.1.toNat (EE (Cl x))).1 r
noncomputable def putF(V:Vl)(l:Ae En)(ps:Ae Xt):Vl×Y:=
 if l=[]then(V,0)
 else if(CQ V ((Ajb l+1:Y):H)).2≠0 then CQ V ((Ajb l+1:Y):H)
 else No (CQ V ((Ajb l+1:Y):H)).1 (writeX (CQ V ((Ajb l+1:Y):H)).1.D (ps.zip l)) (HK DC l ps)
noncomputable def NH(V:Vl)(l:Ae En):Vl×Y:=
 if(Fj V.D.cap (BY V.mems) [] l).2≠0 then(V,(Fj V.D.cap (BY V.mems) [] l).2)else putF V l (Fj V.D.cap (BY V.mems) [] l).1
noncomputable def LH(V:Vl)(l:Ae En):Vl×Y:=if 16<Ajb (Dl V.mems (l.map Eu))then(V,241)else NH V l
noncomputable def NG(V:Vl)(l:Ae En):Vl×Y:=if ¬(l.map En.path).Nodup then(V,2)else LH V l
noncomputable def Ev(V:Vl)(l:Ae En):Vl×Y:=if Fy l≠0 then(V,Fy l)else NG V l
noncomputable def EH(V:Vl)(l:Ae En):Vl×Y:=if V.broken=Af∨V.D.dead=Af then(V,190)else Ev V l
def lJ{l:Ae En}{i:Y}(hi:i<Ajb l)(h:Fy (l.take i)=0):Fy l=if Cw l[i].path≠0 then 140 else if 8192<l[i].data.length then 3 else Fy (l.drop (i+1)):=by
 have d:∀(a b:Ae _),Fy a=0->Fy (a++b)=Fy b:=fun a=>by
  induction a with
  |nil=>simp
  |cons x a ih=>
   intro b h;unfold Fy at h;show(if Cw _≠0 then 140 else if 8192<Ajb x.data then 3 else Fy (a++b))=_;grind
 have e:l=l.take i++l[i]::l.drop (i+1):=by rw[<-DE,HJ]
 conv=>lhs;rw[e]
 rw[d _ _ h];rfl
def lI{l:Ae En}(h:Fy l=0):∀x∈l,Fits x:=by
 induction l with
 |nil=>simp
 |cons y l ih=>
  unfold Fy at h;split at h
  .cases h
  .rename_i e;split at h
   .cases h
   .rename_i d;intro x a;rcases List.mem_cons.1 a with rfl|a
    .exact⟨X,X⟩
    .grind
def zy{l:Ae En}{i:Y}(hi:i<Ajb l)(h:Fy (l.take i)=0)(h1:Cw l[i].path=0)(d:¬8192<l[i].data.length):Fy (l.take (i+1))=0:=by
 have a:i<Ajb (l.take (i+1)):=by rw[BZ];omega
 have:=lJ a Bg;have e:(l.take _)[i]=l[i]:=Bi;rw[this,e,Ag X,Ag d,Oq (by rw[BZ];omega)];rfl
def ZG(l1 l2:Ae Nt)(n:Nt)(rest:Bm)(j:Y)(f:j<6)(v:Ah)(a:Nt)(h:n.cells.set j v=a.cells):(CP (l1++n::l2)++rest).set (Ajb l1*6+j) v=CP (l1++a::l2)++rest:=by
 have d:=Ve l1;have e:∀m,CP (l1++m::l2)++rest=CP l1++(m.cells++(CP l2++rest)):=Bi;rw[e,e,<-h,List.set_append,Ag X,d,Kr,List.set_append,Ai Ce]
def ZF(l1 l2:Ae Nt)(n:Nt)(rest:Bm)(j:Y)(v:Ah)(h:n.cells[j]? =J v):(CP (l1++n::l2)++rest)[Ajb l1*6+j]? =J v:=by
 have a:=Ve l1;grind
def EG(l:Ae En)(ps:Ae Xt):Ae Nt:=HK DC (l.take (Ajb ps)) ps
def kO{l:Ae En}{ps:Ae Xt}(h:Ajb ps<=Ajb l):Ajb (EG l ps)=Ajb ps:=by
 unfold EG;grind
def yj{l:Ae En}{ps:Ae Xt}(h:Ajb ps<Ajb l)(p:Xt):EG l (ps++[p])=EG l ps++[DC l[Ajb ps] p]:=by
 unfold EG;rw[BA,Dd,(CS h).symm,List.zipWith_append Bg];rfl
def zi{cap:H}{a ps:Ae Xt}{l:Ae En}{i:Y}(h:i<Ajb l):Fj cap a ps (l.drop i)=if(Ez (a++ps) cap (Cc l[i])).2≠0 then([],(Ez (a++ps) cap (Cc l[i])).2)else Fj cap a (ps++[((Ez (a++ps) cap (Cc l[i])).1,Cc l[i])]) (l.drop (i+1)):=by
 rw[DE,Fj]
def zj{cap:H}{a ps:Ae Xt}{l:Ae En}:Fj cap a ps (l.drop (Ajb l))=(ps,0):=by
 rw[IK,Fj]
end
section
attribute [local irreducible] OW KW QW EX GW NV
open Pth Rec Srt Dsk Wal Cat Tar
def Uh(l:Ae En)(ps:Ae Xt):Prop:=∀j (h:j<Ajb ps) (h':j<Ajb l),30<=ps[j].1/\ps[j].1+ps[j].2<=4096/\ps[j].2=Cc l[j]
def Uh.snoc{l:Ae En}{ps:Ae Xt}(h:Uh l ps){p:Xt}(hl:Ajb ps<Ajb l)(h1:30<=p.1)(f:p.1+p.2<=4096)(e:p.2=Cc l[Ajb ps]):Uh l (ps++[p]):=fun j d a=>by
 rw[BA,Dd]at d;by_cases q:j<Ajb ps
 .rw[WF q];exact h j q a
 .grind
def yl(ns:Ae Nt)(rest:Bm){i:Y}(h:i<Ajb ns)(j:Y){v:Ah}(hv:ns[i].cells[j]? =J v):(CP ns++rest)[i*6+j]? =J v:=by
 have e:ns=ns.take i++ns[i]::ns.drop (i+1):=by rw[<-DE h,HJ]
 have q:=ZF (ns.take i) (ns.drop (i+1)) ns[i] rest j v hv;rw[<-e,BZ,Hb (Qg h)]at q;omega
def kN{l:Ae En}{ps:Ae Xt}(h:Ajb ps=Ajb l){i:Y}(hi:i<Ajb l)(rest:Bm)(j:Y){v:Ah}(hv:(DC l[i] (ps[i]'X)).cells[j]? =J v):(CP (EG l ps)++rest)[i*6+j]? =J v:=by
 have a:i<Ajb (EG l ps):=by rw[kO X];omega
 refine yl _ _ a j ?_;have e:(EG l ps)[i]=DC l[i] (ps[i]'X):=by simp only[EG,List.getElem_zipWith,List.getElem_take]
 grind
def yi{l:Ae En}{ps:Ae Xt}(h:Ajb ps=Ajb l):EG l ps=HK DC l ps:=by
 unfold EG;grind
def eS(s:Bh):Fc s<4294967296:=bC _ _ _ Bi
def Agi{l:Ae En}{ps:Ae Xt}(h:∀x∈l,Ajb x.path<=1000000/\Ajb x.data<=140737488355328){n:Nt}(a:n∈HK DC l ps):n.mem.Ok/\Ajb n.mem.path<=2000000:=by
 rw[<-List.map_uncurry_zip_eq_zipWith]at a;obtain⟨⟨x,p⟩,f,rfl⟩:=Cr.1 a;have d:=(h x (List.of_mem_zip f).1).1;have i:=eS x.data;have e:∀c:Y,c<4294967296->c<=4294967295:=fun c h=>Nat.le_of_lt_succ h
 have g:(DC x p).mem.sum<=4294967295:=by
  unfold DC;exact e _ i
 exact⟨⟨BC d Bc,g⟩,BC d Bc⟩
noncomputable def br(c:Dv×Y)(r:Ae (Xt×En)):Dv×Y:=if c.2≠0 then c else writeX c.1 r
def Afw{D:Dv}{l:Ae En}{ps:Ae Xt}(h:Ajb ps=Ajb l){i:Y}(hi:i<Ajb l):writeX D ((ps.zip l).drop i)=br (writes D (ps[i]'X).1.toNat ((EE (Cl l[i])).drop 0)) ((ps.zip l).drop (i+1)):=by
 rw[DE Bg,List.getElem_zip,writeX];rfl
def Mh(s:Bh):Ajb (EE s)=Ajb s/512:=by unfold EE;simp
def Afy{D:Dv}{a j:Y}{s:Bh}(h:j<Ajb s/512):writes D (a+j) ((EE s).drop j)=if(D.write ((a+j:Y):H) ((s.drop (j*512)).take 512)).2=0 then writes (D.write ((a+j:Y):H) ((s.drop (j*512)).take 512)).1 (a+(j+1)) ((EE s).drop (j+1))else D.write ((a+j:Y):H) ((s.drop (j*512)).take 512):=by
 rw[DE (by rw[Mh];omega),writes];simp only[EE,Ou,List.getElem_range];rfl
section
variable{w w':Ad}{B vb db:Y}{V V':Vl}{k:Y}
def ag(h:VAt w B vb db V)(ho:VOk V k)(hk:k<=700000000)(hG:Env w)(e8:0<B)(l:Ae En)(hl:Ajb l<=20)(A:Aw AC)(c C:Y)(hs:Sl w C A (CO l))(bl:∀x∈l,Ajb x.path<=1000000/\Ajb x.data<=140737488355328):
 Bn prog 32 [.pointer (J ⟨vb,0,Aa⟩),.slice A (Ajb l) c] w fun v w'=>v=U (((EH V l).2:Y):H)/\VAt w' B vb db (EH V l).1/\Tm w w' B vty:=by
 have ca:=Xe h ho.dev;have hw:=ho.len;have h1:=ho.dev.cap;obtain⟨u,hu⟩:=h.u;refine Bw func32 Z ntmps32 Be Z ?_;refine(O 8) ?_;by_cases ha:V.broken=Af∨V.D.dead=Af
 .rw[Ai ha]at ca;have e:EH V l=(V,190):=Ai ha;rw[e];refine(Zc ca) ?_;rintro _ _⟨rfl,rfl⟩;refine(O 7∘HO 28∘O 6∘Br) ?_;exact⟨Z,h,Tm.refl _ _ _⟩
 .rw[Ag ha]at ca;have e1:EH V l=Ev V l:=Ag ha;rw[e1];clear e1;refine(Zc ca) ?_;rintro _ _⟨rfl,rfl⟩;refine(O 7∘Cb 28∘O 9)<|Lc (fun((_u,wr):Unit×Ad)=>(Bf w wr/\Fy l=0,[(0,.pointer (J ⟨vb,0,Aa⟩)),(1,.slice A (Ajb l) c)],wr)) ?_ ?_
  .refine(O 1)<|Lo (fun((i,wr):Y×Ad)=>(i<=Ajb l/\Fy (l.take i)=0/\Bf w wr,[(0,.pointer (J ⟨vb,0,Aa⟩)),(1,.slice A (Ajb l) c),(30,.slice A (Ajb l) c),(31,U ((Ajb l:Y):H)),(32,U i)],wr,Ajb l-i)) (0,w) ?_ ?_
   .exact⟨BE _,Z,Bf.refl _⟩
   .rintro⟨i,wr⟩⟨hi,hp,hx⟩;refine(O 5)<|Zi (fun d=>?_) fun d=>?_
    .obtain⟨b,o,rfl,_,G⟩:=(hs.ext hx).flat (l:=l) (i:=i) (c:=2) (fun _=>rfl) Bc d;have b4:=lJ d hp;have eo:=zy d hp;have a8:=bl _ (BM d);generalize l[i]=x at G b4 eo a8;refine(O 6∘Zv (Dr x.cells G)∘Zn) ?_;rintro xb w4 cj bx ai;refine(Zs bx (hlt:=Bv _)) ?_;rintro w5 S bj;refine(O 5) ?_;replace S:Bk w5 xb 64 x.cells:=S;have x5:Bf wr w5:=Bu ai bj ai.size (fun k hk=>by simp at hk;omega);have xw:=hx.trans x5;refine(O 1∘Zc (OF x.path X w5)) ?_;rintro _ w6⟨rfl,P⟩;refine(O 2)<|Zi (fun hc=>?_) fun hc=>?_
     .have d5:Cw x.path≠0:=X
      have e:Ev V l=(V,140):=by
       unfold Ev;rw[b4,Ai d5,Ai Bc]
      rw[e];refine(O 4∘Br) ?_;exact⟨Z,h.ext (xw.trans P),Tm.Agk (xw.trans P) _ _⟩
     .have d5:¬Cw x.path≠0:=X;rw[Ag d5]at b4;have d6:=S.ext P;refine(O 8)<|Zi (fun bq=>?_) fun bq=>?_
      .have e:Ev V l=(V,3):=by
        unfold Ev;rw[b4,Ai bq,Ai Bc]
       rw[e];refine(O 4∘Br) ?_;exact⟨Z,h.ext (xw.trans P),Tm.Agk (xw.trans P) _ _⟩
      .refine(O 6)<|Lb ((i+1),w6) ?_;exact⟨d,eo X bq,xw.trans P⟩
    .obtain rfl:i=Ajb l:=X;rw[Dq (Bv _)]at hp;refine(O 1∘Lm ((),wr)) ?_;grind
  .rintro⟨_,wr⟩⟨hx,ep⟩;have e2:Ev V l=NG V l:=Ag X;rw[e2];refine(O 6) ?_;refine dD Z Z ?_;rintro mb wa hy gt gc;refine(O 9) ?_;have xa:=hx.trans gc;refine Lc (fun((vn,wr):Ah×Ad)=>(Bo wr w.heap.size 116 6 vn (Ajb l) (CP (l.map Eu))/\Bf w wr/\(l.map En.path).Nodup,[(0,.pointer (J ⟨vb,0,Aa⟩)),(1,.slice A (Ajb l) c),(8,vn)],wr)) ?_ ?_
   .refine(O 1)<|Lo (fun((i,vn,wr):Y×Ah×Ad)=>(i<=Ajb l/\(∃es cc,Mp wr mb es cc (NO ((l.take i).map En.path)))/\((l.take i).map En.path).Nodup/\Bo wr w.heap.size 116 6 vn i (CP ((l.take i).map Eu))/\Bf w wr,[(0,.pointer (J ⟨vb,0,Aa⟩)),(1,.slice A (Ajb l) c),(8,vn),(9,.map (J mb)),(46,.slice A (Ajb l) c),(47,U ((Ajb l:Y):H)),(48,U i)],wr,Ajb l-i)) (0,(.slice Aa 0 0),wa) ?_ ?_
    .exact⟨BE _,⟨_,_,gt⟩,WK,Bo.nil _ _ _ _,xa⟩
    .rintro⟨i,vn,wr⟩⟨hi,⟨es,cc,hm⟩,dg,T,a5⟩;refine(O 5)<|Zi (fun d=>?_) fun d=>?_
     .obtain⟨b,o,rfl,_,G⟩:=(hs.ext a5).flat (l:=l) (i:=i) (c:=2) (fun _=>rfl) Bc d;have a0:l.take (i+1)=l.take i++[l[i]]:=(CS d).symm;have a8:=bl _ (BM d);have h6:l[i]∈l:=BM d
      have cl:l[i].path∈(l.take i).map En.path->¬(l.map En.path).Nodup:=fun q hn=>by
       have e:l.map En.path=(l.take i).map En.path++(l[i].path::(l.drop (i+1)).map En.path):=by
        rw[<-Co,<-DT,<-DE d,HJ]
       grind
      generalize l[i]=x at G a0 a8 cl;refine(O 6∘Zv (Dr x.cells G)∘Zn) ?_;rintro xb w4 cj bx ai;refine(Zs bx (hlt:=Bv _)) ?_;rintro w5 S bj;refine(O 6) ?_;replace S:Bk w5 xb 64 x.cells:=S;have x5:Bf wr w5:=Bu ai bj ai.size (fun k hk=>by simp at hk;omega);have xw:=a5.trans x5;have a4:=hm.ext x5;refine(O 1∘Zv (by exact pg underlying133 underlying9 PD Z Z a4)∘O 1)<|Zi (fun cg=>?_) fun cg=>?_
      .have e:NG V l=(V,2):=Ai (cl cg);rw[e];refine(O 4∘Br) ?_;exact⟨Z,h.ext xw,Tm.Agk xw _ _⟩
      .refine(O 6) ?_;refine OW.put Z underlying133 underlying9 Z Z Z (a4) ?_;rintro hh hq w6 b6 bi;refine(O 1) ?_
       have c1:Hl (NO ((l.take i).map En.path)) x.path (Value.bool Af)=NO ((l.take (i+1)).map En.path):=by
        unfold Hl;rw[Ag (by rw[mP];omega),a0];simp[NO]
       rw[c1]at b6;have d6:=S.mo bi (by simpa using a4.Ahj S);have x6:Bf w w6:=Bu xw bi xw.size (by simp;have:=hx.size;omega)
       have ab:Bo w6 w.heap.size 116 6 vn i (CP ((l.take i).map Eu)):=Bo.mo (T.ext x5) bi fun k hk=>by
        obtain⟨_,l',I⟩:=(T.ext x5).blkT k hk;simpa using a4.Ahj I
       have e7:=fun k hk=>(ab.lt k hk).1
       have f0:∀k,vn.ownBlock=J k->k≠xb:=fun k hk=>by
        obtain⟨_,l',I⟩:=ab.blkT k hk;exact I.ne d6 Bc
       have f6:∀k,vn.ownBlock=J k->k≠mb:=fun k hk=>by
        obtain⟨_,l',I⟩:=ab.blkT k hk;exact b6.Ahj I
       refine(Yr 14 (fun w'=>Bf w w'/\Bk w' xb 64 x.cells) (If (x6.trans (Bf.drew w6)) d6.drew)) fun r=>(Gv [0,1,2,3,4,5,6,7]∘Yc 8 (YW x.data X w6.drew)) ?_;rintro _ w7⟨rfl,cz⟩;refine⟨⟨r.1.trans cz,r.2.ext cz⟩,fun r=>?_⟩;refine(Gv [9]∘Yw 10 (he:=by exact fun _ _=>Oa (pl:=[(0,1),(1,5)]) (ks:=[0,1]) (zs:=[U 0,Bl [],U 0,U 0,U 0,.int .u32 0]) underlying116 MN Be Z Z Z)) ?_;refine GB 11 1 ([(Eu x).cells]) Z Be Z Z underlying93 MN Z Bc Z Z Z (by repeat' (first|exact Lh _|refine Lg.2 ⟨by first|rfl|assumption,?_⟩)) Bc ?_;rintro nb w8 h0 fa L;refine⟨⟨r.1.trans L,r.2.ext L⟩,fun r=>?_⟩;have b0:=((Bf.drew w6).trans cz).trans L;refine GW.append 12 0 Z Be Z Z underlying93 MN Z Bc Z Z ((ab.ext b0).more (BE _)) (Src.Agn (m:=1) underlying93 (Sl.Agl fa fa.lt) Z (yk [Eu x]) Bc) CA X (BE _) ?_;rintro v9 w9 ea d1 gf;refine⟨⟨r.1.grown d1 e7,r.2.grown d1 fun e=>f0 xb e.symm Z⟩,fun r=>?_⟩;refine(Gv [13]∘Yd∘O 5)<|Lb ((i+1),v9,w9) ?_;refine⟨d,⟨hh,hq,(b6.ext b0).of_block (d1.block mb (by have:=(b6.ext b0).lt;omega) fun e=>f6 mb e.symm Z)⟩,?_,?_,r.1⟩
       .rw[a0,DT,WJ];grind
       .rw[a0,DT,LW,show CP ((l.take i).map Eu++[Eu x])=CP ((l.take i).map Eu)++[(Eu x).cells].flatten by simp];refine Bo.base ea fun k hk=>?_;rcases gf with e|e
        .grind
        .rw[e]at hk;injection hk with hk;have:=x6.size;have:=b0.size;omega
     .obtain rfl:i=Ajb l:=X;rw[Dq (Bv _)]at T dg;refine(O 1∘Lm (vn,wr)) ?_;grind
   .rintro⟨vn,wr⟩⟨T,a5,dg⟩;have e3:NG V l=LH V l:=Ag (fun q=>q dg);rw[e3];obtain⟨An,cn,rfl,_,el⟩:=T.slice;have eg:=hu.ext a5;obtain⟨Au,cu,rfl,_,eh⟩:=eg.own.slice
    have g9:∀n∈l.map Eu,Ajb n.mem.path<=2000000:=fun n hn=>by
     obtain⟨x,hx,rfl⟩:=Cr.1 hn;have:=(bl x hx).1;show Ajb x.path<=_;omega
    have cw:=bH V.mems ho.path X (l.map Eu) g9 Bg Au An cu cn _ _ wr (Dy.ext hG.mlen a5) eh el;rw[DF]at cw;refine(O 7∘Zv (Bp eg.bk)∘O 1∘Zc cw) ?_;rintro v2 w2⟨h3,ez,c3,ec⟩;obtain⟨A2,c2,rfl,_,_⟩:=c3.slice;refine(O 3) ?_;have cb:=Un ez;have x2:=a5.trans ec;refine Zi (fun a2=>?_) fun a2=>?_
    .have e:LH V l=(V,241):=by
      unfold LH;rw[cb];exact Ai a2
     rw[e];refine(O 4∘Br) ?_;exact⟨Z,h.ext x2,Tm.Agk x2 _ _⟩
    .have e4:LH V l=NH V l:=by
      unfold LH;rw[cb];exact Ag a2
     rw[e4];refine(O 6∘Zc (UL (h.ext x2) X)) ?_;rintro v3 w3⟨b8,c0⟩;refine(O 14) ?_;by_cases b7:l=[]
     .have e5:NH V l=(V,0):=by
       rw[b7];unfold NH;rw[show Fj V.D.cap (BY V.mems) [] []=([],0) by rfl,Ag (fun h=>h Z)];exact Ai Z
      rw[e5];have g0:Ajb l=0:=by rw[b7];rfl
      refine Lo (fun((wr,_u):Ad×Unit)=>(Bf w wr,[(1,.slice A (Ajb l) c),(87,U ((Ajb l:Y):H)),(88,U ((0:Y):H))],wr,0)) (w3,()) ?_ ?_
      .exact x2.trans c0
      .rintro⟨wr,_⟩af;refine(O 5∘Cb 89∘O 9∘HO 154∘O 5∘Br) ?_;exact⟨Z,h.ext af,Tm.Agk af _ _⟩
     .obtain⟨nb,rest,rfl,hnb1,hnb2⟩:∃nb rest,An=J ⟨nb,0,Aa⟩/\w.heap.size<=nb/\Bk wr nb 116 (CP (l.map Eu)++rest):=by
       rcases T.2 with⟨_,q⟩|⟨nb,h8,rest,e,q1,q2,_⟩
       .grind
       .grind
      have x3:=x2.trans c0;have bn:=lI ep;obtain⟨E0,hE0⟩:∃E0,E0=BY V.mems:=⟨_,Z⟩;have hg:Ajb E0=Ajb V.mems:=by rw[hE0];exact Mm _
      rw[<-hE0,<-hg]at b8;obtain⟨pl,hpl⟩:∃pl,pl=Fj V.D.cap E0 [] l:=⟨_,Z⟩;have e5:NH V l=if pl.2≠0 then(V,pl.2)else putF V l pl.1:=by rw[hpl,hE0];rfl
      rw[e5];have zw:=x3.size;have gs:Bk w3 nb 116 (CP (EG l []++(l.drop 0).map Eu)++rest):=(hnb2.ext ec).ext c0;refine Lo (fun((i,g,vu,vs,wq):Y×(Ae Xt)×Ah×Ah×Ad)=>(i<=Ajb l/\pl=Fj V.D.cap E0 g (l.drop i)/\Ajb g=i/\Uh l g/\Bo wq w.heap.size 121 2 vu (Ajb E0+i) (Eg (E0++g))/\Bo wq w.heap.size 9 1 vs i (De ((l.take i).map Cl))/\Bk wq nb 116 (CP (EG l g++(l.drop i).map Eu)++rest)/\Bf w wq,[(0,.pointer (J ⟨vb,0,Aa⟩)),(1,.slice A (Ajb l) c),(8,.slice (J ⟨nb,0,Aa⟩) (Ajb l) cn),(12,vu),(13,vs),(86,.slice A (Ajb l) c),(87,U ((Ajb l:Y):H)),(88,U i)],wq,Ajb l-i)) (0,([]),v3,(.slice Aa 0 0),w3) ?_ ?_
      .exact⟨BE _,hpl,Z,fun j h=>absurd h (WU _),by rw[List.append_nil];exact Bo.more b8 x2.size,Bo.nil _ _ _ _,gs,x3⟩
      .rintro⟨i,g,vu,vs,wq⟩⟨hi,W,K,er,da,b5,bc,af⟩;refine(O 5)<|Zi (fun d=>?_) fun d=>?_
       .obtain⟨b,o,rfl,_,G⟩:=(hs.ext af).flat (l:=l) (i:=i) (c:=2) (fun _=>rfl) Bc d;have a0:l.take (i+1)=l.take i++[l[i]]:=(CS d).symm;have a8:=bl _ (BM d);have d2:=bn _ (BM d);rw[zi d]at W;have g5:(l.drop i).map Eu=Eu l[i]::(l.drop (i+1)).map Eu:=by rw[DE d,Co]
        have ba:∀p:Xt,30<=p.1->p.1+p.2<=4096->p.2=Cc (l[Ajb g]'X)->Uh l (g++[p]):=fun p q1 q2 q3=>er.snoc X q1 q2 q3;have df:=fun p=>yj (l:=l) (ps:=g) X p;have a7:=kO (l:=l) (ps:=g) X;rw[g5]at bc;have e0:l[Ajb g]'X=l[i]:=by simp only[K]
        simp only[e0]at df ba;generalize l[i]=x at G a0 a8 d2 W bc df ba;have e9:=JN d2;have cm:=nc x X X;rw[jW d2]at cm;simp only at cm;refine(O 7∘Zv (Dr x.cells G)∘Zn) ?_;rintro xb w4 cj bx ai;refine(O 1∘Zs bx (hlt:=Bv _)) ?_;rintro w5 S bj;refine(O 4) ?_;replace S:Bk w5 xb 64 x.cells:=S;have x5:Bf wq w5:=Bu ai bj ai.size (fun k hk=>by simp at hk;omega);have xw:=af.trans x5;refine(O 3∘Zc (cm w5 (hG.ext xw))) ?_;rintro _ w6⟨rfl,P⟩;refine(O 12∘Cb 102∘O 18) ?_;have dn:=(bc.ext x5).ext P;have x6:=xw.trans P;refine(Zt dn (hlt:=by(simp only[BA,Ve,Cz,a7];omega))) ?_;rintro w7 bh dv;refine(O 2) ?_;obtain⟨R,hR⟩:∃R,R=(l.drop (i+1)).map Eu:=⟨_,Z⟩;rw[<-hR]at bh;have b1:i*6+3=0+i*6+1+2:=X;have b2:i*6+2=0+i*6+1+1:=X
        have ch:∀z,(CP (EG l g++DC x (z,Cc x)::R)++rest)[0+i*6+1+2]? =J (U (Cc x)):=fun z=>by
         have:=ZF (EG l g) R (DC x (z,Cc x)) rest 3 _ Z;rwa[a7,K,b1]at this
        have d0:∀z,(CP (EG l g++DC x (z,Cc x)::R)++rest)[0+i*6+1+1]? =J (U z):=fun z=>by
         have:=ZF (EG l g) R (DC x (z,Cc x)) rest 2 _ Z;rwa[a7,K,b2]at this
        replace bh:Bk w7 nb 116 (CP (EG l g++DC x (0,Cc x)::R)++rest):=by
         have e:=ZG (EG l g) R (Eu x) rest 3 Bc (U (Cc x)) (DC x (0,Cc x)) Z;rw[a7,K,b1]at e;rw[<-e];exact bh
        have x7:Bf w w7:=Bu x6 dv x6.size Bx;obtain⟨Aq,cq,rfl,_,_⟩:=da.slice
        have bb:=Bo.mo ((da.ext x5).ext P) dv fun k hk=>by
         obtain⟨_,l',I⟩:=((da.ext x5).ext P).blkT k hk;simpa using I.ne dn Bc
        have ce:=Bo.mo ((b5.ext x5).ext P) dv fun k hk=>by
         obtain⟨_,l',I⟩:=((b5.ext x5).ext P).blkT k hk;simpa using I.ne dn Bc
        have cf:=fun w C hs=>gH (E0++g) Bg V.D.cap (Cc x) Aq cq C w hs;rw[BA,K]at cf
        have ek:∀w8,Bf w7 w8->Sl w8 w8.heap.size Aq (Eg (E0++g)):=fun w8 L=>by
         obtain⟨_,_,e,_,sl⟩:=(bb.ext L).slice;grind
        obtain⟨f,hf⟩:∃f,f=Ez (E0++g) V.D.cap (Cc x):=⟨_,Z⟩;rw[<-hf]at cf W;have h4:0<=Cc x/\Cc x<=100000:=by unfold Cc;omega
        refine PY (N:=20) (fun w'=>Bf w w'/\∃z:H,Bk w' nb 116 (CP (EG l g++DC x (z,Cc x)::R)++rest)) Be Z ?_;have r:=(⟨x7.trans (Bf.drew w7),0,bh.drew⟩:Bf w w7.drew/\∃z:H,Bk w7.drew nb 116 (CP (EG l g++DC x (z,Cc x)::R)++rest));refine GW.val 0 Z Be Be Be Z Z r (fun w' y=>EX.move Z) ?_;refine GW.val 1 Z Be Be Be Z Z r (fun w' y=>EX.move Z) ?_;refine GW.val 2 Z Be Be Be Z Z r (fun w' y=>EX.move Z) ?_;refine GW.val 3 Z Be Be Be Z Z r (fun w' y=>DS Z) ?_;refine GW.val 4 Z Be Be Be Z Z r (fun w' y=>Do (off:=0) underlying82 Z Z VT Z Z) ?_;refine GW.val 5 Z Be Be Be Z Z r (fun w' y=>Do (off:=0) underlying80 Z Z bz Z Z) ?_;refine GW.val 6 Z Be Be Be Z Z r (fun w' y=>Ci underlying26 Z Z ((hu.bk.ext y.1).cell_of Z)) ?_;refine GW.val 8 Z Be Be Be Z Z r (fun w' y=>EX.move Z) ?_;refine GW.val 9 Z Be Be Be Z Z r (fun w' y=>DS Z) ?_;refine GW.val 10 Z Be Be Be Z Z r (fun w' y=>Do (off:=2) underlying60 Z Z BV Z Z) ?_;refine GW.val 11 Z Be Be Be Z Z r (fun w' y=>Ci underlying3 Z Z (Exists.elim y.2 fun z h=>h.cell_of (ch z))) ?_;refine GW.call 7 Z Be Z Z Z (Ht (h.ext r.1).dev ho.dev) ?_;rintro _ _⟨rfl,rfl⟩;refine⟨r,fun r=>?_⟩;refine(Yc 12 (cf _ _ (ek _ (Bf.drew w7)))) ?_;rintro _ w8⟨rfl,L⟩;refine⟨⟨r.1.trans L,r.2.imp fun _ h=>h.ext L⟩,fun r=>?_⟩;refine(Gv [13,14,15,16,17]) ?_;have dk:=bh.drew.ext L;refine(Yt 18 dk (hlt:=by(simp only[BA,Ve,Cz,a7];omega))) ?_;rintro w9 gq ds;refine⟨⟨Bu r.1 ds r.1.size Bx,f.1,by(have e:=ZG (EG l g) R (DC x (0,Cc x)) rest 2 Bc (U f.1) (DC x (f.1,Cc x)) Z;grind)⟩,fun r=>?_⟩;refine(Gv [19]∘Yd∘O 6) ?_
        have ey:Bk w9 nb 116 (CP (EG l g++DC x (f.1,Cc x)::R)++rest):=by
         have e:=ZG (EG l g) R (DC x (0,Cc x)) rest 2 Bc (U f.1) (DC x (f.1,Cc x)) Z;rw[a7,K,b2]at e;rw[<-e];exact gq
        have fl:=r.1
        have ao:=Bo.mo ((bb.ext (Bf.drew w7)).ext L) ds fun k hk=>by
         obtain⟨_,l',I⟩:=((bb.ext (Bf.drew w7)).ext L).blkT k hk;simpa using I.ne dk Bc
        have et:=Bo.mo ((ce.ext (Bf.drew w7)).ext L) ds fun k hk=>by
         obtain⟨_,l',I⟩:=((ce.ext (Bf.drew w7)).ext L).blkT k hk;simpa using I.ne dk Bc
        refine Zi (fun f9=>?_) fun f9=>?_
        .have hz:f.2≠0:=X;rw[Ai hz]at W;rw[W];simp only;rw[Ai hz];refine(O 5∘Br) ?_;exact⟨Z,h.ext r.1,Tm.Agk r.1 _ _⟩
        .have hz:f.2=0:=X;rw[Ag X]at W
         obtain⟨f1,f2,f3,f4⟩:1<=Cc x/\30<=f.1/\f.1+Cc x<=4096/\True:=by
          obtain⟨q1,q2,q3⟩:=Yx (hf▸hz);rw[<-hf]at q3;have:=q3.1.1;have:=q3.1.2.1;simp;omega
         refine(O 2∘Yr 13 (fun w'=>Bf w w'/\Bk w' nb 116 (CP (EG l g++DC x (f.1,Cc x)::R)++rest)) (If (r.1.trans (Bf.drew w9)) ey.drew)) fun r=>(Gv [0,1,2,3]∘Yw 4 (he:=by exact fun _ y=>Bp y.2 (hi:=d0 f.1))∘Gv [5,6,7]∘Yw 8 (he:=by exact fun _ y=>Bp y.2 (hi:=ch f.1))∘Gv [9]) ?_;refine GB 10 1 ([xcells (f.1,Cc x)]) Z Be Z Z underlying118 LJ Z Bc Z Z Z (by repeat' (first|exact Lh _|refine Lg.2 ⟨by first|rfl|assumption,?_⟩)) Bc ?_;rintro eb h2 g4 co a9;refine⟨⟨r.1.trans a9,r.2.ext a9⟩,fun r=>?_⟩
         have f5:∀k,(Value.slice Aq (Ajb E0+i) cq).ownBlock=J k->k≠nb:=fun k hk=>by
          obtain⟨_,l',I⟩:=ao.blkT k hk;exact I.ne ey Bc
         have a3:=(Bf.drew w9).trans a9;refine GW.append 11 0 Z Be Z Z underlying118 LJ Z Bc Z Z ((ao.ext a3).more (BE _)) (Src.Agn (m:=1) underlying118 (Sl.Agl co co.lt) Z (We [(f.1,Cc x)]) Bc) CA X (BE _) ?_;rintro d9 fr cx bm ef;refine⟨⟨r.1.grown bm fun k hk=>(ao.lt k hk).1,r.2.grown bm fun e=>f5 nb e.symm Z⟩,fun r=>?_⟩;refine(Gv [12]∘Yd∘O 3) ?_;have a1:=Bo.apart (et.ext a3) (ao.ext a3) Bc bm;refine(He r.1 a1) ?_;rintro _ fs fn cv fi ck hr;refine(O 7) ?_
         have c9:Bo fr w.heap.size 121 2 d9 (Ajb E0+(i+1)) (Eg (E0++(g++[(f.1,Cc x)]))):=by
          rw[<-Cx,PJ,show Ajb E0+(i+1)=Ajb E0+i+1 from Z];refine Bo.base (by simpa using cx) fun k hk=>?_;rcases ef with e|e
          .exact(ao.lt k Bg).1
          .rw[e]at hk;injection hk with hk;have:=fl.size;have:=a3.size;omega
         have c8:=Bo.apart c9 a1 Bc ck
         have g8:=r.2.grown ck fun e=>by
          obtain⟨_,l',I⟩:=a1.blkT nb e.symm;exact I.ne r.2 Bc Z
         refine Lb ((i+1),(g++[(f.1,Cc x)]),d9,fs,fn) ?_;exact⟨d,W,by simp;omega,ba _ f2 f3 Z,c8,by rw[a0,DT,LW,bE];exact cv,by rw[df];simpa[hR]using g8,fi⟩
       .obtain rfl:i=Ajb l:=X;rw[zj]at W;rw[W];simp only;rw[Ag (fun h=>h Z)];have e6:putF V l g=if(CQ V ((Ajb l+1:Y):H)).2≠0 then CQ V ((Ajb l+1:Y):H)else No (CQ V ((Ajb l+1:Y):H)).1 (writeX (CQ V ((Ajb l+1:Y):H)).1.D (g.zip l)) (HK DC l g):=Ag b7;rw[e6];clear e6;rw[IK,Ep,List.append_nil]at bc;rw[DV]at b5;have g0:Ajb l≠0:=fun q=>b7 (List.length_eq_zero_iff.1 q);have cr:=az (hu.ext af) ho X (Dy.ext hG.mlen af) ((Ajb l+1:Y):H) X;obtain⟨al,gl⟩:=ay ho ((Ajb l+1:Y):H);have em:=al.sm;have en:=al.dev;generalize CQ V ((Ajb l+1:Y):H)=R at cr al gl em en;refine(O 8∘Cb 154∘O 11∘Zc cr) ?_;rintro _ wd⟨rfl,hd,td⟩;refine(O 7) ?_;have ct:Tm w wd B vty:=(Tm.Agk af _ _).trans td;have bf:=td.bk bc Bc;have cd:=td.own b5 Bc;refine Zi (fun f7=>?_) fun f7=>?_
        .rw[Ai (show R.2≠0 by omega)];refine(O 5∘Br) ?_;exact⟨Z,hd.at_,ct⟩
        .rw[Ag (show ¬R.2≠0 by omega)];obtain⟨As,cs,rfl,_,_⟩:=cd.slice;refine(O 9)<|Lo (fun((i,D,wr):Y×Dv×Ad)=>(i<=Ajb l/\writeX R.1.D (g.zip l)=writeX D ((g.zip l).drop i)/\D.Ok/\Sm D (k+6+i*4096)/\VAu wr B vb db { R.1 with D:=D } (.slice Au (Ajb V.mems) cu)/\Tm wd wr B vty,[(0,.pointer (J ⟨vb,0,Aa⟩)),(8,.slice (J ⟨nb,0,Aa⟩) (Ajb l) cn),(165,.slice As (Ajb l) cs),(166,U ((Ajb l:Y):H)),(167,U i)],wr,Ajb l-i)) (0,R.1.D,wd) ?_ ?_
         .exact⟨BE _,Z,en,em,hd,Tm.refl _ _ _⟩
         .rintro⟨i,D,wr⟩⟨hi,a6,fc,fb,hv,tr⟩;refine(O 5)<|Zi (fun d=>?_) fun d=>?_
          .rw[Afw K d]at a6;obtain⟨p1,p2,p3⟩:=er i X d;have gb:=bn _ (BM d);have g2:=kN K d rest 2 (v:=U (g[i]'X).1) Z;have g3:=kN K d rest 3 (v:=U (g[i]'X).2) Z;obtain⟨_,_,e,_,fv⟩:=(tr.own cd Bc).slice;cases e;obtain⟨sb,so,rfl,_,d4⟩:=VX fv (i:=i) Bg;rw[Ou]at d4;have e9:=JN gb;generalize g[i]'X=p at a6 p1 p2 p3 g2 g3;generalize l[i]=x at a6 p3 d4 e9;obtain⟨a,ha⟩:∃a:Y,p.1=(a:H):=⟨p.1.toNat,X⟩;rw[ha]at a6 p1 p2 g2;rw[p3]at p2 g3;unfold Cc at p2 g3;obtain⟨n,hn⟩:∃n,n=Ajb (Cl x)/512:=⟨_,Z⟩;rw[<-hn]at p2 g3;have b1:i*6+3=0+i*6+1+2:=X;have b2:i*6+2=0+i*6+1+1:=X;rw[b1]at g3;rw[b2]at g2;have gn:=tr.bk bf Bc;refine(O 7∘Zv (Ca d4)∘O 10∘Zv (Bp gn (hi:=g3))∘O 3)<|Lo (fun((j,E,w2):Y×Dv×Ad)=>(j<=n/\writeX R.1.D (g.zip l)=br (writes E (a+j) ((EE (Cl x)).drop j)) ((g.zip l).drop (i+1))/\E.Ok/\Sm E (k+6+i*4096+j)/\VAu w2 B vb db { R.1 with D:=E } (.slice Au (Ajb V.mems) cu)/\Tm wd w2 B vty,[(0,.pointer (J ⟨vb,0,Aa⟩)),(8,.slice (J ⟨nb,0,Aa⟩) (Ajb l) cn),(165,.slice (J ⟨sb,so,Aa⟩) (Ajb l) cs),(166,U ((Ajb l:Y):H)),(167,U i),(20,U i),(21,Bl ((Cl x))),(177,U n),(178,U j)],w2,n-j)) (0,D,wr) ?_ ?_
           .grind
           .rintro⟨j,E,w2⟩⟨hj,aj,d8,d7,b3,te⟩;refine(O 5)<|Zi (fun g1=>?_) fun g1=>?_
            .rw[Afy X]at aj;have gp:=te.bk bf Bc;have bs:=b3.bk;obtain⟨s,hs5⟩:∃s,s=((Cl x).drop (j*512)).take 512:=⟨_,Z⟩;have ht:Ajb s<=512:=by rw[hs5,BZ];omega
             have cw:=fun w1 hd=>Wa (w:=w1) (B:=B) (b:=db) hd d8 (d7.small X) ((a+j:Y):H) X X s X;have c4:=PI d8 ((a+j:Y):H) s;have c5:=Rx d7 ((a+j:Y):H) s;rw[<-hs5]at aj;generalize E.write ((a+j:Y):H) s=q at aj cw c4 c5;have gk:s=((Cl x).drop (j*512)).take ((j+1)*512-j*512):=by rw[hs5,show(j+1)*512-j*512=512 by omega]
             rw[gk]at cw;have h5:(j+1)*512<=Ajb (Cl x):=X;refine(O 9∘Yr 22 (fun w'=>Bk w' vb 82 (HA db { R.1 with D:=E } (.slice Au (Ajb V.mems) cu))/\Bk w' nb 116 (CP (EG l g)++rest)) (If bs.drew gp.drew)) fun r=>(Gv [0,1,2,3,4,5,6,7,8,9]∘Yw 10 (he:=by exact fun _ y=>Bp y.2 (hi:=g2))∘Gv [11,12,13,14,15,16,17,18]∘Yw 19 (he:=by exact fun _ _=>Ol underlying9 Z Z Z X)∘Yc 20 (cw _ (b3.ext (Bf.drew w2)).dev)) ?_;rintro _ w3⟨rfl,g7,t3⟩;refine⟨⟨t3.bk r.1 Bc,t3.bk r.2 Bc⟩,fun r=>?_⟩;refine(Gv [21]∘Yd∘O 5) ?_;have gg:VAu w3 B vb db { R.1 with D:=q.1 } (.slice Au (Ajb V.mems) cu):=(b3.ext (Bf.drew w2)).dev_tm g7 t3;have fu:Tm wd w3 B vty:=te.trans ((Tm.Agk (Bf.drew w2) _ _).trans (Tm.vty t3));refine Zi (fun d3=>?_) fun d3=>?_
             .have Q:q.2≠0:=X;rw[Ag Q]at aj;rw[aj,show br q ((g.zip l).drop (i+1))=q from Ai Q,Uj Q];refine(O 6∘Zc (ON gg q.2)) ?_;rintro _ w4⟨rfl,ee,t4⟩;refine(O 2∘Br) ?_;rw[show(({ R.1 with D:=q.1 }:Vl).broken||decide (q.2≠0))=Af by rw[AL Q,Bool.or_true]]at ee;exact⟨Z,ee.at_,ct.trans (fu.trans t4)⟩
             .rw[Ai (show q.2=0 by omega)]at aj;refine(O 6)<|Lb ((j+1),q.1,w3) ?_;grind
            .obtain rfl:j=n:=X;rw[Oq (by rw[Mh];omega),writes]at aj;refine(O 6)<|Lb ((i+1),E,w2) ?_;exact⟨X,aj,d8,d7.more X,b3,te⟩
          .obtain rfl:i=Ajb l:=X;rw[Oq Bg,writeX]at a6;rw[a6,Xd];have h7:=hv.bk;have fd:=Tl hv.dev fc (fb.small X);have c6:=aV fc;have c7:=aW fb;generalize D.sync=s at fd c6 c7;refine(O 9∘Zc fd) ?_;rintro _ we⟨rfl,g6,te⟩;refine(O 7) ?_;have he:VAu we B vb db { R.1 with D:=s.1 } (.slice Au (Ajb V.mems) cu):=hv.dev_tm g6 te;have cp:Tm w we B vty:=ct.trans (tr.trans (Tm.vty te));refine Zi (fun d3=>?_) fun d3=>?_
           .have Q:s.2≠0:=X;rw[Ai Q];refine(O 6∘Zc (ON he s.2)) ?_;rintro _ wg⟨rfl,ed,tg⟩;refine(O 2∘Br) ?_;rw[show(({ R.1 with D:=s.1 }:Vl).broken||decide (s.2≠0))=Af by rw[AL Q,Bool.or_true]]at ed;exact⟨Z,ed.at_,cp.trans tg⟩
           .rw[Ag (show ¬s.2≠0 by omega)];have bs:=te.bk (tr.bk bf Bc) Bc;have gd:VOk { R.1 with D:=s.1 } (k+6+Ajb l*4096+1):=⟨c6,c7,al.gen,al.next,al.ok,al.len,al.path⟩;have f8:Ajb (HK DC l g)=Ajb l:=by rw[List.length_zipWith];omega
            rw[yi K]at bs
            have b9:∀w',Bk w' nb 116 (CP (HK DC l g)++rest)->Sl w' (nb+1) (J ⟨nb,0,Aa⟩) (CP (HK DC l g)):=fun w' hb=>by
             have:=(Sl.Agl hb (Qh _)).pre (Ajb (CP (HK DC l g)));grind
            have ew:=fun n hn=>Agi (ps:=g) bl (n:=n) hn;have cc:=XI he.at_ gd X (LD hG.mlen cp e8) e8 (HK DC l g) X ew (J ⟨nb,0,Aa⟩) cn (nb+1) (b9 _ bs) (fun w' t=>b9 _ (t.bk bs Bc));rw[f8]at cc;refine(O 7∘Zc cc) ?_;rintro _ wh⟨rfl,ge,th⟩;refine(O 2∘Br) ?_;exact⟨Z,ge,cp.trans th⟩
end
section
variable{w w':Ad}{B vb db:Y}{V V':Vl}{k:Y}
def Xc(h:VAt w B vb db V)(j:VOk V k)(hk:k<=700000000)(m:Env w)(e:0<B)(x:En)(l:Ajb x.path<=1000000/\Ajb x.data<=140737488355328):
 Bn prog 25 [.pointer (J ⟨vb,0,Aa⟩),Bl x.path,Bl x.data] w fun v w'=>v=U (((EH V [x]).2:Y):H)/\VAt w' B vb db (EH V [x]).1/\Tm w w' B vty:=by
 refine Bw func25 Z ntmps25 Be Z ?_;refine(O 10) ?_;refine Mb 1 ([x.cells]) Z Z underlying31 Hn Z Bc Z Z Z (by repeat' (first|exact Lh _|refine Lg.2 ⟨by rfl,?_⟩)) Bc ?_;rintro nb g f d a;replace d:Bk g nb 64 (CO [x]):=d;refine(Zc (ag (h.ext a) j hk (m.ext a) e [x] Bi (J ⟨nb,0,Aa⟩) 1 (nb+1) (Sl.Agl d (Qh _)) (fun y p=>by grind))) ?_;rintro _ o⟨rfl,n,i⟩;refine(O 2∘Br) ?_;exact⟨Z,n,(Tm.Agk a _ _).trans i⟩
end
abbrev Ow:={ x:M// -1000000<=x.start/\x.start<=1000000 }
instance:Inhabited Ow:=⟨⟨⟨[],0,0,0,0⟩,Bc,Bc⟩⟩
def OE(x y:Ow):H:=x.1.start-y.1.start
def swoT:Go.Sort.SWO (fun a b:Ow=>decide (OE a b<0)) where
 irrefl x:=by
  rw[decide_eq_false_iff_not];unfold OE;omega
 trans x y z h1 h2:=by
  rw[decide_eq_true_eq]at*;unfold OE at*;omega
 ntrans x y z h1 h2:=by
  rw[decide_eq_false_iff_not]at*;unfold OE at*;omega
def yG(x y:Ow)(W:Ad):Bn prog 88 [.agg (x.1.cells).toArray,.agg (y.1.cells).toArray] W fun r W'=>r=U (OE x y)/\Gr W W':=by
 obtain⟨x,m,j⟩:=x;obtain⟨y,i,h⟩:=y;refine Bw func88 Z ntmps88 (by rfl) Z ?_;refine(O 2∘Zv (by exact EX.box (l:=x.cells) Z Z)) ?_;have d:=Bk.new W 60 x.cells;have g:=Gr.alloc W (.cells x.cells.toArray 60);generalize o:W.alloc (.cells x.cells.toArray 60)=w1 at d g;refine(Zv (by exact EX.box (l:=y.cells) Z Z)∘O 5) ?_;have e:=Bk.new w1 60 y.cells;have f:=Gr.alloc w1 (.cells y.cells.toArray 60);have a:=d.ext f.1;generalize n:w1.alloc (.cells y.cells.toArray 60)=w2 at e f a;have p:=g.trans f;refine(O 6∘Br) ?_;exact⟨Z,p⟩
section
variable{w w':Ad}{B vb db:Y}{V V':Vl}{k:Y}
structure Ordd(l l':Ae M):Prop where
 perm:l'.Perm l
 sorted:l'.Pairwise fun x y=>x.start<=y.start
def yI(h:VAt w B vb db V)(hm:Ajb V.mems<=1000000)(q:∀m∈V.mems,-1000000<=m.start/\m.start<=1000000):
 Bn prog 56 [.pointer (J ⟨vb,0,Aa⟩)] w fun v w'=>(∃L,Ordd V.mems L/\Bo w' w.heap.size 60 5 v (Ajb L) (DK L))/\Bf w w':=by
 obtain⟨L,G⟩:∃L:Ae Ow,L.map (·.1)=V.mems:=⟨V.mems.attachWith _ q,Bi⟩;have A:Ajb L=Ajb V.mems:=by have:=Av DZ G;simpa using this
 have p:∀L:Ae Ow,L.flatMap (fun x=>x.1.cells)=DK (L.map (·.1)):=fun L=>by
  induction L with
  |nil=>rfl
  |cons x L ih=>rw[FZ,Co,ih];rfl
 refine Bw func56 Z ntmps56 Be Z ?_;refine(O 7∘Zc (UZ h hm)) ?_;rintro D C⟨l,n⟩;refine(O 5) ?_;have a:Bo C w.heap.size 60 5 D (Ajb L) (L.flatMap (fun x=>x.1.cells)):=by rw[p,G,A];exact l
 have P:=VG Tryz.Ahw (f:=79) Z func79 Be (e:=60) Z underlying60 Z Tp Bi (cells:=fun x:Ow=>x.1.cells) (fun _=>rfl) (fun x v E=>by simp[M.cells]at E;rcases E with rfl|rfl|rfl|rfl|rfl<;>rfl) OE swoT func88 Be w.heap.size L X D C a (fun W x y _=>yG x y W);refine(Zc P) ?_;rintro _ Q⟨rfl,L',g,d,r,o⟩;refine(O 6∘Br) ?_;refine⟨⟨L'.map (·.1),⟨?_,?_⟩,?_⟩,Bu n o n.size (fun k I=>(a.lt k (FC.1 I)).1)⟩
 .grind
 .rw[LX,Ik];intro i j N K t;have:=d i j N K t;unfold OE at this;omega
 .rw[DF,g.length_eq,<-p];omega
def rK{e:Ad}{u:Ah}{n:Y}(t:n<=1000000)(l:Ae Xt)(m:M)(hx:Bf e w)(g:Bo w e.heap.size 121 2 u n (Eg l)):
 Bn prog 58 [u,.agg m.cells.toArray] w fun v w'=>Bo w' e.heap.size 121 2 v (n+1) (Eg (l++[(m.start,m.sectors)]))/\Bf e w':=by
 obtain⟨A,c,rfl,_,_⟩:=g.slice;refine Bw func58 Z ntmps58 Be Z ?_;refine(O 2) ?_;refine Dz Z Z Z ?_;rintro r p h j d;refine(O 10∘Kx (hx.trans d) (g.ext d)) ?_;rintro _ q o a f i;refine(O 2∘Br) ?_;rw[PJ];exact⟨a,f⟩
def uI(l:Ae M)(hl:Ajb l<=1000000)(A:Aw AC)(c C:Y)(w:Ad)(N:Sl w C A (DK l)):
 Bn prog 57 [.slice A (Ajb l) c,.slice Aa 0 0,.func (.func 58) #[] #[]] w fun v w'=>Bo w' w.heap.size 121 2 v (Ajb l) (Eg (BY l))/\Bf w w':=by
 refine Bw func57 Z ntmps57 (by rfl) Z ?_;refine(O 12)<|Lo (fun((i,n,wr):Y×Ah×Ad)=>(i<=Ajb l/\Bo wr w.heap.size 121 2 n i (Eg (BY (l.take i)))/\Bf w wr,[(1,n),(2,.func (.func 58) #[] #[]),(9,.slice A (Ajb l) c),(10,U ((Ajb l:Y):H)),(11,U i)],wr,Ajb l-i)) (0,(.slice Aa 0 0),w) ?_ ?_
 .exact⟨BE _,Bo.nil _ _ _ _,Bf.refl _⟩
 .rintro⟨i,n,wr⟩⟨S,f,D⟩;refine(O 5)<|Zi (fun a=>?_) fun a=>?_
  .obtain⟨b,o,rfl,_,d⟩:=(N.ext D).flat (l:=l) (i:=i) (c:=5) (fun _=>rfl) Bi a;have h:l.take (i+1)=l.take i++[l[i]]:=(CS a).symm;generalize l[i]=m at d h;refine(O 6∘Zv (Dr m.cells d)∘Zn) ?_;rintro G P E r e;refine(Zs r (hlt:=Bv _)) ?_;rintro x g q;refine(O 4) ?_;replace g:Bk x G 60 m.cells:=g;have t:Bf wr x:=Bu e q e.size (fun k Q=>by grind);refine(Zv (Dr m.cells (fun j u L=>by rw[Fb];exact g.cell_of L))∘DW (rK X (BY (l.take i)) m (D.trans t) (f.ext t))) ?_;rintro K I⟨y,p⟩;refine(O 7)<|Lb ((i+1),K,I) ?_;refine⟨a,?_,p⟩;rw[h,show BY (l.take i++[m])=BY (l.take i)++[(m.start,m.sectors)] by simp[BY]];omega
  .obtain rfl:i=Ajb l:=X;rw[Dq (Bv _)]at f;refine(O 6∘Br) ?_;grind
end
noncomputable def Im(V:Vl)(a:H)(m:M):Vl×Y:=
 if m.start-a<m.sectors/\m.start≠a then(if(Ez (BY V.mems) V.D.cap m.sectors).2≠0 then(V,(Ez (BY V.mems) V.D.cap m.sectors).2)else Gu V m.path (Ez (BY V.mems) V.D.cap m.sectors).1)else(V,0)
noncomputable def OT(R:Vl×Y)(a:H)(m:M):Vl×Y:=if R.2≠0 then R else if m.start≠a then Gu R.1 m.path a else(R.1,0)
def YU(V:Vl)(a:H)(m:M):OT (V,0) a m=if m.start≠a then Gu V m.path a else(V,0):=Ag fun h=>h Z
def YT{R:Vl×Y}(h:R.2≠0)(a:H)(m:M):OT R a m=R:=Ai h
noncomputable def Lq:Vl->H->Ae M->Vl×Y
 |V,_,[]=>MO V
 |V,a,m::r=>if(OT (Im V a m) a m).2≠0 then OT (Im V a m) a m else Lq (OT (Im V a m) a m).1 (a+m.sectors) r
noncomputable def Lr(V:Vl)(L:Ae M):Vl×Y:=if(EH V []).2≠0 then(V,(EH V []).2)else Lq V 30 L
def lR(V:Vl):(EH V []).1=V:=by
 unfold EH;split
 .rfl
 .show(if Fy []≠0 then _ else _:Vl×Y).1=V;rw[Ag (fun h=>h Z)];unfold NG;rw[Ag (fun h=>h WK)];unfold LH;split
  .rfl
  .rfl
section
variable{w w':Ad}{B vb db:Y}{V V':Vl}{k:Y}
def ft(P:Vl->Y->Prop)(hP:∀V k,P V k->VOk V k)(hM:∀V k p tt,k<=700000000->P V k->P (Gu V p tt).1 (k+10000))(hm:∀V k k',P V k->k<=k'->P V k')
 (h:VAt w B vb db V) (ho:P V k) (hk:k<=600000000) (hG:Env w) (E:0<B) (bf:∀m∈V.mems,0<=m.start/\m.start<=5000/\0<=m.sectors/\m.sectors<=5000/\Ajb m.path<=1000000):
 Bn prog 27 [.pointer (J ⟨vb,0,Aa⟩)] w fun v w'=>∃L,Ordd V.mems L/\v=U (((Lr V L).2:Y):H)/\VAt w' B vb db (Lr V L).1/\Tm w w' B vty:=by
 have a2:=hP _ _ ho;have a6:=a2.len;have cp:=ag h a2 X hG E [] Bi Aa 0 0 (.inl Z) (fun x hx=>by grind);rw[lR]at cp;generalize bx:(EH V []).2=pe at cp;refine Bw func27 Z ntmps27 Be Z ?_;refine(O 8∘Zc cp) ?_;rintro _ w1⟨rfl,h1,t1⟩;refine(O 7)<|Zi (fun bh=>?_) fun bh=>?_
 .refine(O 5∘Br) ?_
  have e:∀L,Lr V L=(V,pe):=fun L=>by
   unfold Lr;grind
  exact⟨_,⟨TQ V.mems (fun x y=>decide (x.start<=y.start)),by
   have:=dr (le:=fun x y:M=>decide (x.start<=y.start)) (fun a b c h1 h2=>by grind) (fun a b=>by grind) V.mems;grind⟩,by rw[e],Bg,t1⟩
 .have e:∀L,Lr V L=Lq V 30 L:=fun L=>by
   unfold Lr;grind
  refine(O 9∘Zc (yI h1 X (fun m hm=>by grind))) ?_;rintro v2 w2⟨⟨L,hO,W⟩,a0⟩;obtain⟨A,c,rfl,_,bs⟩:=W.slice;refine(O 4) ?_;have b5:Ajb L<=1000:=by rw[hO.perm.length_eq];exact a6
  have a3:∀m∈L,0<=m.start/\m.start<=5000/\0<=m.sectors/\m.sectors<=5000/\Ajb m.path<=1000000:=fun m hm=>bf m (hO.perm.mem_iff.1 hm);have t2:Tm w w2 B vty:=t1.trans (Tm.Agk a0 _ _);refine Lo (fun((i,g,a,wr):Y×Vl×H×Ad)=>(i<=Ajb L/\Lq V 30 L=Lq g a (L.drop i)/\P g (k+20000*i)/\30<=a/\a<=30+5000*i/\VAt wr B vb db g/\Tm w2 wr B vty,[(0,.pointer (J ⟨vb,0,Aa⟩)),(4,U (a:H)),(18,.slice A (Ajb L) c),(19,U ((Ajb L:Y):H)),(20,U i)],wr,Ajb L-i)) (0,V,30,w2) ?_ ?_
  .exact⟨BE _,Z,ho,Bc,Bc,h1.ext a0,Tm.refl _ _ _⟩
  .rintro⟨i,g,a,wr⟩⟨hi,d,Q,b3,b2,hv,tr⟩;have tw:=t2.trans tr;refine(O 5)<|Zi (fun j=>?_) fun j=>?_
   .obtain⟨_,_,eA,_,a7⟩:=(tr.own W Bc).slice;cases eA;obtain⟨b,o,rfl,_,G⟩:=a7.flat (l:=L) (i:=i) (c:=5) (fun _=>rfl) Bc j;rw[DE j,Lq]at d;obtain⟨q1,q2,q3,q4,q5⟩:=a3 _ (BM j);generalize L[i]=m at G d q1 q2 q3 q4 q5;refine(O 6∘Zv (Dr m.cells G)∘Zn) ?_;rintro xb w4 bn bl ab;refine(Zs bl (hlt:=Bv _)) ?_;rintro w5 I bi;refine(O 3) ?_;replace I:Bk w5 xb 60 m.cells:=I;have x5:Bf wr w5:=Bu ab bi ab.size (fun k hk=>by grind);have t:=hv.ext x5;have t5:Tm w w5 B vty:=tw.trans (Tm.Agk x5 _ _);refine Ld (fun((U1,wz):Vl×Ad)=>(Im g a m=(U1,0)/\P U1 (k+20000*i+10000)/\VAt wz B vb db U1/\Tm w5 wz B vty,[(0,.pointer (J ⟨vb,0,Aa⟩)),(4,U (a:H)),(6,.pointer (J ⟨xb,0,Aa⟩)),(18,.slice (J ⟨b,o,Aa⟩) (Ajb L) c),(19,U ((Ajb L:Y):H)),(20,U i)],wz)) ?_ ?_
    .refine(O 9)<|Zd 31 (fun c1=>?_) fun c1=>?_
     .refine(O 6)<|Zi (fun c2=>?_) fun c2=>?_
      .have S:Im g a m=if(Ez (BY g.mems) g.D.cap m.sectors).2≠0 then(g,(Ez (BY g.mems) g.D.cap m.sectors).2)else Gu g m.path (Ez (BY g.mems) g.D.cap m.sectors).1:=Ai ⟨c1,c2⟩;have n:=hP _ _ Q;have b4:=n.len;have cf:=fun w C Aq cq hs=>gH (BY g.mems) (by rw[Mm];omega) g.D.cap m.sectors Aq cq C w hs;rw[Mm]at cf;have hf:=@Yx (BY g.mems) g.D.cap m.sectors;have bq:=n.dev.cap;generalize Ez (BY g.mems) g.D.cap m.sectors=f at S cf hf;refine(O 3∘Zc (UZ t X)) ?_;rintro v6 w6⟨ao,bb⟩;obtain⟨A6,c6,rfl,_,a5⟩:=ao.slice;refine(Zc (uI g.mems X A6 c6 _ w6 a5)) ?_;rintro v7 w7⟨al,ba⟩;obtain⟨A7,c7,rfl,_,a4⟩:=al.slice;refine(O 3) ?_;have ai:=bb.trans ba;refine(Yr 11 (fun w'=>Bf w7 w') (Bf.drew w7)) fun hS=>(Gv [0,1,3]∘Yw 4 (he:=by exact fun _ bm=>Bp ((I.ext ai).ext bm))∘Yc 2 (Afl ((t.ext ai).ext hS) n.dev)) ?_;rintro _ _⟨rfl,rfl⟩;refine⟨hS,fun hS=>?_⟩;refine(Yc 5 (cf _ _ A7 c7 (a4.ext hS))) ?_;rintro _ w8⟨rfl,a9⟩;refine⟨hS.trans a9,fun hS=>?_⟩;refine(Gv [6,7,8,9,10]∘Yd∘O 6) ?_;have af:=ai.trans hS;have T:Tm w5 w8 B vty:=Tm.Agk af _ _;have bc:=t.ext af;have b1:=I.ext af;refine Zi (fun a8=>?_) fun a8=>?_
       .have r:f.2≠0:=X;rw[Ai r]at S;rw[S,YT (R:=(g,f.2)) r,Ai (show(g,f.2).2≠0 from r)]at d;refine(O 5∘Br) ?_;exact⟨L,hO,Bg,Bg,t5.trans T⟩
       .have r:f.2=0:=X;rw[Ag (fun h=>h r)]at S;obtain⟨f1,f2,f3⟩:=hf r;have f4:=f3.1.1;have f5:=f3.1.2.1;have cm:=fun hG=>Zz bc n X hG E m.path X f.1 X X;have K:=hM _ _ m.path f.1 X Q;generalize Gu g m.path f.1=q at S cm K;refine(O 7∘Zc (cm (LD hG.mlen (t5.trans T) E))) ?_;rintro _ w9⟨rfl,h9,t9⟩;refine(O 7)<|Zi (fun aj=>?_) fun aj=>?_
        .have r:q.2≠0:=X;rw[S,YT r,Ai r]at d;refine(O 5∘Br) ?_;exact⟨L,hO,by rw[e,d],by rw[e,d];exact h9,t5.trans (T.trans t9)⟩
        .refine(O 1∘Lm (q.1,w9)) ?_;exact⟨Bg,K,h9,T.trans t9⟩
      .have S:Im g a m=(g,0):=Ag fun h=>c2 h.2;refine(O 1∘Lm (g,w5)) ?_;exact⟨S,hm _ _ _ Q X,t,Tm.refl _ _ _⟩
     .have S:Im g a m=(g,0):=Ag fun h=>c1 h.1;refine(O 8∘Lm (g,w5)) ?_;exact⟨S,hm _ _ _ Q X,t,Tm.refl _ _ _⟩
    .rintro⟨U1,wz⟩⟨has,N,a1,tz⟩;have n:=hP _ _ N;have bj:=tz.bk I Bc;rw[has,YU]at d;refine(O 8)<|Zi (fun c3=>?_) fun c3=>?_
     .have cm:=fun hG=>Zz a1 n X hG E m.path X a X X;have K:=hM _ _ m.path a X N;rw[Ai c3]at d;generalize Gu U1 m.path a=q at d cm K;refine(O 6∘Zc (cm (LD hG.mlen (t5.trans tz) E))) ?_;rintro _ w9⟨rfl,h9,t9⟩;refine(O 7)<|Zi (fun aj=>?_) fun aj=>?_
      .have r:q.2≠0:=X;rw[Ai r]at d;refine(O 5∘Br) ?_;exact⟨L,hO,by rw[e,d],by rw[e,d];exact h9,t5.trans (tz.trans t9)⟩
      .rw[Ag (show ¬q.2≠0 by omega)]at d;have b0:=t9.bk bj Bc;refine(O 13)<|Lb ((i+1),q.1,(a+m.sectors),w9) ?_;exact⟨j,d,hm _ _ _ K X,X,X,h9,tr.trans ((Tm.Agk x5 _ _).trans (tz.trans t9))⟩
     .rw[Ag c3]at d;simp only at d;rw[Ag (fun h=>h Z)]at d;refine(O 13)<|Lb ((i+1),U1,(a+m.sectors),wz) ?_;exact⟨j,d,hm _ _ _ N X,X,X,a1,tr.trans ((Tm.Agk x5 _ _).trans tz)⟩
   .obtain rfl:i=Ajb L:=X;rw[IK,Lq]at d;refine(O 4∘Zc (ot hv (hP _ _ Q) X)) ?_;rintro _ w3⟨rfl,h3,t3⟩;refine(O 2∘Br) ?_;exact⟨L,hO,by rw[e,d],Bg,t2.trans (tr.trans t3)⟩
end
def QE(l:Ae En)(x:En):CO (l++[x])=CO l++x.cells:=Bi
def QD(l:Ae En):∀u∈CO l,u.oneCell'=Af:=by
 intro u a;obtain⟨p,_,h⟩:=Ov.1 a;simp only[En.cells,List.mem_cons,List.not_mem_nil,or_false]at h;rcases h with rfl|rfl<;>rfl
def Sl.Ahe{α:Type}{cells:α->Bm}{c:Y}{w:Ad}{B:Y}{A:Aw AC}{l:Ae α}(h:Sl w B A (l.flatMap cells))(d:∀a,Ajb (cells a)=c)(h0:0<c){i:Y}(hi:i<Ajb l):
 ∃b o,A=J ⟨b,o,Aa⟩/\b<B/\∀w',Bf w w'->∀j u,(cells l[i])[j]? =J u->w'.cell? ⟨b,o+i*c+j,Aa⟩=J u:=by
 obtain⟨b,o,rfl,g,_⟩:=h.flat d h0 hi;refine⟨b,o,Z,g,fun w' f=>?_⟩;obtain⟨_,_,e,_,k⟩:=(h.ext f).flat d h0 hi;grind
structure MapS(w w':Ad)(mb rb ob:Y)(v:Ah):Prop where
 x:Bf w w'
 m:Bk w' mb 33 [v]
 r:Bk w' rb 33 [.slice Aa 0 0]
 o:∃u,Bk w' ob 33 [u]
def MapS.ext{w a b:Ad}{mb rb ob:Y}{v:Ah}(h:MapS w a mb rb ob v)(hx:Bf a b):MapS w b mb rb ob v:=⟨h.x.trans hx,h.m.ext hx,h.r.ext hx,h.o.imp fun _ q=>q.ext hx⟩
def MapS.drew{w a:Ad}{mb rb ob:Y}{v:Ah}(h:MapS w a mb rb ob v):MapS w a.drew mb rb ob v:=h.ext (Bf.drew a)
def MapS.grown{w a b:Ad}{l i j n:Y}{v u:Ah}{xs:Bm}(h:MapS w a l i j v)(y:Bo a w.heap.size 64 2 u n xs)(d:a.grownBy b u.ownBlock):MapS w b l i j v:=by
 have f:∀k p,Bk a k 33 p->J k≠u.ownBlock:=fun k p B e=>by
  obtain⟨_,C,g⟩:=y.blkT k e.symm;exact g.ne B Bi Z
 refine⟨h.x.grown d fun k A=>(y.lt k A).1,h.m.grown d (f _ _ h.m),h.r.grown d (f _ _ h.r),?_⟩;obtain⟨q,t⟩:=h.o;exact⟨q,t.grown d (f _ _ t)⟩
def MapS.put{w a b:Ad}{mb rb ob:Y}{v u:Ah}(h:MapS w a mb rb ob v)(hm:Mo a b [ob])(hb:Bk b ob 33 [u])(n1:ob≠mb)(n2:ob≠rb)(hz:w.heap.size<=ob):MapS w b mb rb ob v:=
 ⟨Bu h.x hm h.x.size (fun k hk=>by grind),h.m.mo hm Bg,h.r.mo hm Bg,u,hb⟩
def ET(l:Ae En)(p:Bh):Ae En:=l.filter fun x=>decide (x.path≠p)
def Afp(l:Ae En)(hl:Ajb l<=1000000)(p:Bh)(A:Aw AC)(c C:Y)(w:Ad)(hs:Sl w C A (CO l)):
 Bn prog 34 [.agg #[.slice A (Ajb l) c],Bl p] w fun v w'=>∃u,v=.agg #[u]/\Bo w' w.heap.size 64 2 u (Ajb (ET l p)) (CO (ET l p))/\Bf w w':=by
 refine Bw func34 Z ntmps34 Be Z ?_;refine(O 2) ?_;refine Dz Z Z Z ?_;rintro mb w1 bl a8 S;refine(Zn) ?_;rintro rb w2 bj a6 G;refine(O 4∘Zn) ?_;rintro Q w3 bi bh T;refine(Zs bh (hlt:=Bv _)) ?_;rintro w4 bf al;refine(O 7) ?_;have x13:=(S.trans G).trans T;have x4:Bf w w4:=Bu x13 al x13.size (fun k t=>by have:=S.size;have:=G.size;grind);have a1:Q≠mb:=by have:=a8.lt;have:=G.size;omega
 have a0:Q≠rb:=by have:=a6.lt;omega
 have a7:=((a8.ext G).ext T).mo al Bg;have a5:=(a6.ext T).mo al Bg;have a2:w.heap.size<=Q:=by have:=S.size;have:=G.size;omega
 refine Lo (fun((i,uo,wr):Y×Ah×Ad)=>(i<=Ajb l/\Bk wr mb 33 [.slice A (Ajb l) c]/\Bk wr rb 33 [.slice Aa 0 0]/\Bk wr Q 33 [uo]/\Bo wr w.heap.size 64 2 uo (Ajb (ET (l.take i) p)) (CO (ET (l.take i) p))/\Bf w wr,[(1,Bl (p)),(2,.pointer (J ⟨mb,0,Aa⟩)),(4,.pointer (J ⟨rb,0,Aa⟩)),(5,.pointer (J ⟨Q,0,Aa⟩)),(6,U i)],wr,Ajb l-i)) (0,(.slice Aa 0 0),w4) ?_ ?_
 .exact⟨BE _,a7,a5,bf,Bo.nil _ _ _ _,x4⟩
 .rintro⟨i,uo,wr⟩⟨hi,hm,hr,ho,f,V⟩;refine(O 9)<|Zi (fun j=>?_) fun j=>?_
  .obtain⟨b,o,rfl,_,D⟩:=hs.Ahe (l:=l) (i:=i) (c:=2) (fun _=>rfl) Bc j;have af:l.take (i+1)=l.take i++[l[i]]:=(CS j).symm;have bm:Ajb (ET (l.take i) p)<=1000000:=BC (RR _ _) Bg;generalize l[i]=x at D af;refine(O 10∘Zv (Ca (D wr V 0 _ Z))∘O 3)<|Zi (fun aj=>?_) fun aj=>?_
   .have W:ET (l.take (i+1)) p=ET (l.take i) p++[x]:=by
     rw[af];unfold ET;rw[Lf];simp[aj]
    have ai:=ho.ext (Bf.drew wr);refine Lc (fun((P,E):Ah×Ad)=>(Bk E Q 33 [P]/\Bk E mb 33 [.slice (J ⟨b,o,Aa⟩) (Ajb l) c]/\Bk E rb 33 [.slice Aa 0 0]/\Bo E w.heap.size 64 2 P (Ajb (ET (l.take i) p)+1) (CO (ET (l.take i) p++[x]))/\Bf w E,[(1,Bl (p)),(2,.pointer (J ⟨mb,0,Aa⟩)),(4,.pointer (J ⟨rb,0,Aa⟩)),(5,.pointer (J ⟨Q,0,Aa⟩)),(6,U i)],E)) ?_ ?_
    .obtain⟨Ao,co,rfl,_,_⟩:=f.slice;refine(Yr 11 (fun w'=>MapS w w' mb rb Q (.slice (J ⟨b,o,Aa⟩) (Ajb l) c)) (MapS.drew ⟨V,hm,hr,_,ho⟩)) fun h=>(Gv [0,2]∘Yw 3 (he:=by exact fun _ ao=>Bp ao.m)∘Gv [4,5]∘Yw 6 (he:=by exact fun w' ao=>Dr x.cells (D w' ao.x)))<|Ye 1 7 ?_ ?_
     .refine(Jo 1 (he:=by exact Bp ai)) fun h=>?_;refine GB 7 1 ([x.cells]) Z Be Z Z underlying31 Hn Z Bc Z Z Z (by repeat' (first|exact Lh _|refine Lg.2 ⟨by first|rfl|assumption,?_⟩)) Bc ?_;rintro eb w5 a4 N y;refine⟨h.ext y,fun h=>?_⟩;have g:=ai.ext y;have x5:=(Bf.drew wr).trans y;have a:=f.ext x5;refine GW.append 8 0 Z Be Z Z underlying31 Hn Z Bc Z Z (a.more (BE _)) (Src.Agn (m:=1) underlying31 (Sl.Agl N N.lt) Z (QD [x]) Bc) CA X (BE _) ?_;rintro P E q K ab;refine⟨MapS.grown h a K,fun h=>?_⟩;refine(Gv [9]) ?_
      have B:=g.grown K fun e=>by
       obtain⟨_,l',n⟩:=a.blkT Q e.symm;exact n.ne g Bc Z
      refine(Yt 10 B (hlt:=Bv _)) ?_;rintro w7 L I;refine⟨MapS.put h I L a1 a0 a2,fun h=>?_⟩;refine(Yd) ?_
      have d:Bo E w.heap.size 64 2 P (Ajb (ET (l.take i) p)+1) (CO (ET (l.take i) p++[x])):=by
       rw[QE];refine Bo.base (by simpa using q) fun k t=>?_;rcases ab with e|e
       .exact(a.lt k (by rw[<-e];exact t)).1
       .rw[e]at t;injection t with t;have:=V.size;have:=x5.size;omega
      refine(Lm (P,w7)) ?_
      exact⟨L,h.m,h.r,Bo.mo d I fun k t=>by
       obtain⟨_,l',n⟩:=d.blkT k t;simpa using n.ne B Bc,h.x⟩
     .refine TC 7 1 ([x.cells]) Z Z Z underlying31 Hn Z Bc Z Z Z (by repeat' (first|exact Lh _|refine Lg.2 ⟨by first|rfl|assumption,?_⟩)) Bc ?_;rintro eb w5 a4 N y;refine⟨h.ext y,fun h=>?_⟩;have g:=ai.ext y;refine(Yo 1 (he:=by exact Bp g)) fun h=>?_;have x5:=(Bf.drew wr).trans y;have a:=f.ext x5;refine GW.append 8 0 Z Be Z Z underlying31 Hn Z Bc Z Z (a.more (BE _)) (Src.Agn (m:=1) underlying31 (Sl.Agl N N.lt) Z (QD [x]) Bc) CA X (BE _) ?_;rintro P E q K ab;refine⟨MapS.grown h a K,fun h=>?_⟩;refine(Gv [9]) ?_
      have B:=g.grown K fun e=>by
       obtain⟨_,l',n⟩:=a.blkT Q e.symm;exact n.ne g Bc Z
      refine(Yt 10 B (hlt:=Bv _)) ?_;rintro w7 L I;refine⟨MapS.put h I L a1 a0 a2,fun h=>?_⟩;refine(Yd) ?_
      have d:Bo E w.heap.size 64 2 P (Ajb (ET (l.take i) p)+1) (CO (ET (l.take i) p++[x])):=by
       rw[QE];refine Bo.base (by simpa using q) fun k t=>?_;rcases ab with e|e
       .exact(a.lt k (by rw[<-e];exact t)).1
       .rw[e]at t;injection t with t;have:=V.size;have:=x5.size;omega
      refine(Lm (P,w7)) ?_
      exact⟨L,h.m,h.r,Bo.mo d I fun k t=>by
       obtain⟨_,l',n⟩:=d.blkT k t;simpa using n.ne B Bc,h.x⟩
    .rintro⟨P,E⟩⟨B,bb,ba,q,a9⟩;refine(O 6)<|Lb ((i+1),P,E) ?_;dsimp only;rw[W,BA];exact⟨j,bb,ba,B,q,a9⟩
   .have W:ET (l.take (i+1)) p=ET (l.take i) p:=by
     rw[af];unfold ET;rw[Lf];simp[aj]
    refine(O 7)<|Lb ((i+1),uo,wr) ?_;dsimp only;rw[W];exact⟨j,hm,hr,ho,f,V⟩
  .obtain rfl:i=Ajb l:=X;rw[Dq (Bv _)]at f;refine(O 3∘Zv (BW ho)) ?_;have xr:Bf wr wr:=Bf.refl _;refine(Zs hr (hlt:=Bv _)) ?_;rintro w8 bc a3;refine(O 1∘Kw bc) ?_
   exact⟨uo,Z,Bo.mo f a3 fun k t=>by
    obtain⟨_,l',n⟩:=f.blkT k t;simpa using n.ne hr Bc,Bu V a3 V.size (by simp;have:=S.size;omega)⟩
def MapS.ne{a:Ad}{B n T b:Y}{u:Ah}{xs l:Bm}(f:Bo a B 64 2 u n xs)(g:Bk a b T l)(h:64≠T):J b≠u.ownBlock:=fun e=>by
 obtain⟨_,i,d⟩:=f.blkT b e.symm;exact d.ne g h Z
def ZC{a b:Y}{v u:Ah}(h:v.ownBlock=u.ownBlock∨v.ownBlock=J b)(d:J a≠u.ownBlock)(hl:a<b):J a≠v.ownBlock:=fun e=>by
 grind
def GR(x:En)(r:Ae En×Ar)(y:En):Ae En×Ar:=
 (r.1++(if Gc x.path y.path<=0/\r.2=Aj then[x]else[])++(if Gc x.path y.path≠0 then[y]else[]),r.2||decide (Gc x.path y.path<=0))
def EM(x:En)(l:Ae En):Ae En×Ar:=l.foldl (GR x) ([],Aj)
def CW(l:Ae En)(x:En):Ae En:=if(EM x l).2 then(EM x l).1 else(EM x l).1++[x]
def Afn(x:En)(l:Ae En)(y:En):EM x (l++[y])=GR x (EM x l) y:=by
 unfold EM;simp
def oI(x:En)(l:Ae En):Ajb (EM x l).1<=2*Ajb l:=by
 have a:∀(l:Ae En) (r:Ae En×Ar),Ajb (l.foldl (GR x) r).1<=Ajb r.1+2*Ajb l:=fun l=>by
  induction l with
  |nil=>simp
  |cons y l ih=>
   intro r;refine BC (ih _) ?_
   have:Ajb (GR x r y).1<=Ajb r.1+2:=by
    unfold GR;rw[BA,BA];split<;>split<;>simp<;>omega
   grind
 have:=a l ([],Aj);simpa[EM]using this
def oK(l:Ae En)(hl:Ajb l<=1000000)(x:En)(A:Aw AC)(c C:Y)(w:Ad)(hG:Dy w)(ca:Ajb x.path<=2000000)(cd:∀y∈l,Ajb y.path<=2000000)(hs:Sl w C A (CO l)):
 Bn prog 33 [.agg #[.slice A (Ajb l) c],.agg x.cells.toArray] w fun v w'=>∃u,v=.agg #[u]/\Bo w' w.heap.size 64 2 u (Ajb (CW l x)) (CO (CW l x))/\Bf w w':=by
 refine Bw func33 Z ntmps33 Be Z ?_;refine(O 2) ?_;refine Dz Z Z Z ?_;rintro mb w1 cl b9 bs;refine Dz Z Z Z ?_;rintro xb w2 ck ba bf;refine(Zn) ?_;rintro rb w3 cj b6 a6;refine(O 4∘Zn) ?_;rintro N w4 ch cf a5;replace ba:Bk w2 xb 64 x.cells:=ba;refine(Zs cf (hlt:=Bv _)) ?_;rintro w5 b4 a9;refine(O 11) ?_;have bn:=((bs.trans bf).trans a6).trans a5;have z1:=bs.size;have z2:=bf.size;have z3:=a6.size;have l1:=b9.lt;have l2:=ba.lt;have l3:=b6.lt;have a4:N≠mb:=X;have a3:N≠rb:=X;have a2:N≠xb:=X;have a8:w.heap.size<=N:=X;have x5:Bf w w5:=Bu bn a9 bn.size (fun k I=>by grind);have b8:=(((b9.ext bf).ext a6).ext a5).mo a9 Bg;have b7:=((ba.ext a6).ext a5).mo a9 (by simpa using a2.symm);have b5:=(b6.ext a5).mo a9 Bg;refine Lo (fun((i,dv,uo,wr):Y×Ar×Ah×Ad)=>(i<=Ajb l/\dv=(EM x (l.take i)).2/\MapS w wr mb rb N (.slice A (Ajb l) c)/\Bk wr xb 64 x.cells/\Bk wr N 33 [uo]/\J xb≠uo.ownBlock/\Bo wr w.heap.size 64 2 uo (Ajb (EM x (l.take i)).1) (CO (EM x (l.take i)).1),[(2,.pointer (J ⟨mb,0,Aa⟩)),(3,.pointer (J ⟨xb,0,Aa⟩)),(4,.pointer (J ⟨rb,0,Aa⟩)),(5,.pointer (J ⟨N,0,Aa⟩)),(6,.bool dv),(7,U i)],wr,Ajb l-i)) (0,Aj,(.slice Aa 0 0),w5) ?_ ?_
 .exact⟨BE _,Z,⟨x5,b8,b5,_,b4⟩,b7,b4,nofun,Bo.nil _ _ _ _⟩
 .rintro⟨i,dv,uo,wr⟩⟨hi,a0,hM,bl,ho,b1,B⟩;have hx:=hM.x;refine(O 5∘Zv (Bp hM.m)∘O 3)<|Zi (fun q=>?_) fun q=>?_
  .obtain⟨b,o,rfl,_,W⟩:=hs.Ahe (l:=l) (i:=i) (c:=2) (fun _=>rfl) Bc q;have bx:l.take (i+1)=l.take i++[l[i]]:=(CS q).symm
   have a7:Ajb (EM x (l.take i)).1<=2000000:=by
    have:=oI x (l.take i);rw[BZ]at this;omega
   have bq:=cd _ (BM q);generalize l[i]=y at W bx bq;have aj:=Afn x (l.take i) y;rw[<-bx]at aj;generalize EM x (l.take i)=r at aj B a7 a0;obtain⟨os,dn⟩:=r;simp only at B a7 a0;subst a0;refine(O 4∘Yr 10 (fun w'=>Bf wr w') (Bf.drew wr)) fun g=>(Gv [0]∘Yw 1 (he:=by exact fun _ L=>Bp (bl.ext L))∘Gv [2]∘Yw 3 (he:=by exact fun _ L=>Bp ((hM.ext L).m))∘Gv [4,5,6]∘Yw 7 (he:=by exact fun w' L=>Ca (W w' (hx.trans L) 0 _ Z))∘Yc 8 (fk x.path y.path ca bq _ ((hG.ext hx).ext g))) ?_;rintro _ T⟨rfl,cc⟩;refine⟨g.trans cc,fun g=>?_⟩;refine(Gv [9]∘Yd∘O 2) ?_;have S:=hM.ext g;have Q:=bl.ext g;have ai:=ho.ext g;have h:=B.ext g;generalize b3:Gc x.path y.path=cv at aj;refine Ld (fun((p,d1,v1,wz):(Ae En)×Ar×Ah×Ad)=>(p=os++(if cv<=0/\dv=Aj then[x]else[])/\d1=or dv (decide (cv<=0))/\MapS w wz mb rb N (.slice (J ⟨b,o,Aa⟩) (Ajb l) c)/\Bk wz xb 64 x.cells/\Bk wz N 33 [v1]/\J xb≠v1.ownBlock/\Bo wz w.heap.size 64 2 v1 (Ajb p) (CO p),[(2,.pointer (J ⟨mb,0,Aa⟩)),(3,.pointer (J ⟨xb,0,Aa⟩)),(4,.pointer (J ⟨rb,0,Aa⟩)),(5,.pointer (J ⟨N,0,Aa⟩)),(6,.bool d1),(7,U i),(8,U (cv:H))],wz)) ?_ ?_
   .refine(O 4)<|Zd 28 (fun c1=>?_) fun c1=>?_
    .refine(O 4) ?_;refine HD Z (fun hd=>?_) (fun hd=>?_)
     .have IU:dv=Aj:=by cases dv<;>simp at hd ⊢
      obtain⟨Ao,co,rfl,_,_⟩:=h.slice;refine(O 4∘Zv (BW Q)) ?_;refine Mb 1 ([x.cells]) Z Z underlying31 Hn Z Bc Z Z Z (by repeat' (first|exact Lh _|refine Lg.2 ⟨by first|rfl|assumption,?_⟩)) Bc ?_;rintro eb w7 ao G a;have d:=h.ext a;have a1:=S.ext a;refine HL Z Z underlying31 Hn Z Bc Z Z (a1.x) (d) (Src.Agn (m:=1) underlying31 (Sl.Agl G G.lt) Z (QD [x]) Bc) CA X ?_;rintro v8 w8 t cb n P;refine(O 1) ?_
      have f:Bo w8 w.heap.size 64 2 v8 (Ajb (os++[x])) (CO (os++[x])):=by
       rw[QE,BA];simpa using t
      have D:=(ai.ext a).grown n (MapS.ne d (ai.ext a) Bc);refine(Zt D (hlt:=Bv _)) ?_;rintro w9 E j;refine(O 4∘Lm ((os++[x]),Af,v8,w9)) ?_
      exact⟨Bg,Bg,(a1.grown d n).put j E a4 a3 a8,((Q.ext a).grown n b1).mo j (by simpa using a2.symm),E,ZC P b1 (Q.ext a).lt,Bo.mo f j fun k I=>by
       obtain⟨_,l',K⟩:=f.blkT k I;simpa using K.ne D Bc⟩
     .refine(O 1∘Lm (os,dv,uo,T)) ?_;grind
    .refine(O 6∘Lm (os,dv,uo,T)) ?_;grind
   .rintro⟨p,d1,v1,wz⟩⟨e1,e2,bm,ab,bb,al,V⟩;refine(O 5)<|Zi (fun bj=>?_) fun bj=>?_
    .have af:=bb.ext (Bf.drew wz);have bc:=V.ext (Bf.drew wz);have cm:=bm.x.size
     have cg:Ajb p<=3000000:=by
      rw[e1,BA];split<;>simp<;>omega
     refine Lc (fun((v6,T):Ah×Ad)=>(MapS w T mb rb N (.slice (J ⟨b,o,Aa⟩) (Ajb l) c)/\Bk T xb 64 x.cells/\Bk T N 33 [v6]/\J xb≠v6.ownBlock/\Bo T w.heap.size 64 2 v6 (Ajb (p++[y])) (CO (p++[y])),[(2,.pointer (J ⟨mb,0,Aa⟩)),(3,.pointer (J ⟨xb,0,Aa⟩)),(4,.pointer (J ⟨rb,0,Aa⟩)),(5,.pointer (J ⟨N,0,Aa⟩)),(6,.bool d1),(7,U i)],T)) ?_ ?_
     .obtain⟨Ao,co,rfl,_,_⟩:=V.slice;refine(Yr 11 (fun w'=>MapS w w' mb rb N (.slice (J ⟨b,o,Aa⟩) (Ajb l) c)/\Bk w' xb 64 x.cells) ⟨bm.drew,ab.drew⟩) fun g=>(Gv [0,2]∘Yw 3 (he:=by exact fun _ L=>Bp L.1.m)∘Gv [4,5]∘Yw 6 (he:=by exact fun w' L=>Dr y.cells (W w' L.1.x)))<|Ye 1 7 ?_ ?_
      .refine(Jo 1 (he:=by exact Bp af)) fun g=>?_;refine GB 7 1 ([y.cells]) Z Be Z Z underlying31 Hn Z Bc Z Z Z (by repeat' (first|exact Lh _|refine Lg.2 ⟨by first|rfl|assumption,?_⟩)) Bc ?_;rintro eb w7 ao G a;refine⟨⟨g.1.ext a,g.2.ext a⟩,fun g=>?_⟩;have d:=bc.ext a;refine GW.append 8 0 Z Be Z Z underlying31 Hn Z Bc Z Z (d.more (BE _)) (Src.Agn (m:=1) underlying31 (Sl.Agl G G.lt) Z (QD [y]) Bc) CA X (BE _) ?_;rintro v8 w8 t n P;refine⟨⟨MapS.grown g.1 d n,g.2.grown n al⟩,fun g=>?_⟩;refine(Gv [9]) ?_;have D:=(af.ext a).grown n (MapS.ne d (af.ext a) Bc)
       have f:Bo w8 w.heap.size 64 2 v8 (Ajb (p++[y])) (CO (p++[y])):=by
        rw[QE,BA];refine Bo.base (by simpa using t) fun k I=>?_;rcases P with e|e
        .exact(d.lt k (by rw[<-e];exact I)).1
        .rw[e]at I;injection I with I;have:=a.size;have:wz.drew.heap.size=wz.heap.size:=rfl;omega
       refine(Yt 10 D (hlt:=Bv _)) ?_;rintro w9 E j;refine⟨⟨g.1.put j E a4 a3 a8,g.2.mo j (by simpa using a2.symm)⟩,fun g=>?_⟩;refine(Yd∘Lm (v8,w9)) ?_
       exact⟨g.1,g.2,E,ZC P al (ab.drew.ext a).lt,Bo.mo f j fun k I=>by
        obtain⟨_,l',K⟩:=f.blkT k I;simpa using K.ne D Bc⟩
      .refine TC 7 1 ([y.cells]) Z Z Z underlying31 Hn Z Bc Z Z Z (by repeat' (first|exact Lh _|refine Lg.2 ⟨by first|rfl|assumption,?_⟩)) Bc ?_;rintro eb w7 ao G a;refine⟨⟨g.1.ext a,g.2.ext a⟩,fun g=>?_⟩;refine(Yo 1 (he:=by exact Bp (af.ext a))) fun g=>?_;have d:=bc.ext a;refine GW.append 8 0 Z Be Z Z underlying31 Hn Z Bc Z Z (d.more (BE _)) (Src.Agn (m:=1) underlying31 (Sl.Agl G G.lt) Z (QD [y]) Bc) CA X (BE _) ?_;rintro v8 w8 t n P;refine⟨⟨MapS.grown g.1 d n,g.2.grown n al⟩,fun g=>?_⟩;refine(Gv [9]) ?_;have D:=(af.ext a).grown n (MapS.ne d (af.ext a) Bc)
       have f:Bo w8 w.heap.size 64 2 v8 (Ajb (p++[y])) (CO (p++[y])):=by
        rw[QE,BA];refine Bo.base (by simpa using t) fun k I=>?_;rcases P with e|e
        .exact(d.lt k (by rw[<-e];exact I)).1
        .rw[e]at I;injection I with I;have:=a.size;have:wz.drew.heap.size=wz.heap.size:=rfl;omega
       refine(Yt 10 D (hlt:=Bv _)) ?_;rintro w9 E j;refine⟨⟨g.1.put j E a4 a3 a8,g.2.mo j (by simpa using a2.symm)⟩,fun g=>?_⟩;refine(Yd∘Lm (v8,w9)) ?_
       exact⟨g.1,g.2,E,ZC P al (ab.drew.ext a).lt,Bo.mo f j fun k I=>by
        obtain⟨_,l',K⟩:=f.blkT k I;simpa using K.ne D Bc⟩
     .rintro⟨v6,T⟩⟨S,Q,ai,b0,h⟩
      have e3:EM x (l.take (i+1))=(p++[y],d1):=by
       rw[aj,GR,b3,Ai bj,<-e1,<-e2]
      refine(O 6)<|Lb ((i+1),d1,v6,T) ?_;dsimp only;rw[e3];exact⟨q,Z,S,Q,ai,b0,h⟩
    .have e3:EM x (l.take (i+1))=(p,d1):=by
      rw[aj,GR,b3,Ag bj,List.append_nil,<-e1,<-e2]
     refine(O 7)<|Lb ((i+1),d1,v1,wz) ?_;dsimp only;rw[e3];exact⟨q,Z,bm,ab,bb,al,V⟩
  .obtain rfl:i=Ajb l:=X;rw[Dq (Bv _)]at B;have hx:=hM.x;refine(O 3)<|Ld (fun((v6,T):Ah×Ad)=>(MapS w T mb rb N (.slice A (Ajb l) c)/\Bk T N 33 [v6]/\Bo T w.heap.size 64 2 v6 (Ajb (CW l x)) (CO (CW l x)),[(2,.pointer (J ⟨mb,0,Aa⟩)),(3,.pointer (J ⟨xb,0,Aa⟩)),(4,.pointer (J ⟨rb,0,Aa⟩)),(5,.pointer (J ⟨N,0,Aa⟩))],T)) ?_ ?_
   .refine(O 4) ?_;refine HD Z (fun bi=>?_) (fun bi=>?_)
    .have IU:(EM x l).2=Aj:=by
      have e:dv=(EM x l).2:=by rw[a0,Dq (Bv _)]
      rw[<-e];cases dv<;>simp at bi ⊢
     have bh:CW l x=(EM x l).1++[x]:=by
      unfold CW;rw[IU];rfl
     have a7:Ajb (EM x l).1<=2000000:=by
      have:=oI x l;omega
     generalize(EM x l).1=os at B bh a7;obtain⟨Ao,co,rfl,_,_⟩:=B.slice;refine(O 3∘Zv (BW bl)) ?_;refine Mb 1 ([x.cells]) Z Z underlying31 Hn Z Bc Z Z Z (by repeat' (first|exact Lh _|refine Lg.2 ⟨by first|rfl|assumption,?_⟩)) Bc ?_;rintro eb w7 ao G a;have d:=B.ext a;have a1:=hM.ext a;refine HL Z Z underlying31 Hn Z Bc Z Z (a1.x) (d) (Src.Agn (m:=1) underlying31 (Sl.Agl G G.lt) Z (QD [x]) Bc) CA X ?_;rintro v8 w8 t cb n P;refine(O 1) ?_
     have f:Bo w8 w.heap.size 64 2 v8 (Ajb (os++[x])) (CO (os++[x])):=by
      rw[QE,BA];simpa using t
     have D:=(ho.ext a).grown n (MapS.ne d (ho.ext a) Bc);refine(Zt D (hlt:=Bv _)) ?_;rintro w9 E j;refine(O 1∘Lm (v8,w9)) ?_;rw[bh]
     exact⟨(a1.grown d n).put j E a4 a3 a8,E,Bo.mo f j fun k I=>by
      obtain⟨_,l',K⟩:=f.blkT k I;simpa using K.ne D Bc⟩
    .have IU:(EM x l).2=Af:=by
      have e:dv=(EM x l).2:=by rw[a0,Dq (Bv _)]
      rw[<-e];cases dv<;>simp at bi ⊢
     have bh:CW l x=(EM x l).1:=by
      unfold CW;rw[IU];rfl
     refine(O 1∘Lm (uo,wr)) ?_;grind
   .rintro⟨v6,T⟩⟨S,ai,h⟩;refine(O 2∘Zv (BW ai)∘Zs S.r (hlt:=Bv _)) ?_;rintro w8 ce b2;refine(O 1∘Kw ce) ?_
    exact⟨v6,Z,Bo.mo h b2 fun k I=>by
     obtain⟨_,l',K⟩:=h.blkT k I;simpa using K.ne S.r Bc,Bu S.x b2 S.x.size Bg⟩
end
namespace Wal
open Rec Pth Dsk
def chs:Y->Ae By->Ae Ch
 |_,[]=>[]
 |i,t::T=>.write i t::chs (i+1) T
def Uk:Y->Ae By->By->By
 |_,[],s=>s
 |i,t::T,s=>Uk (i+1) T ((Ch.write i t).ap s)
def XB:∀(T:Ae By) (i:Y),Ajb (chs i T)=Ajb T
 |[],_=>rfl
 |t::T,i=>by simp[chs,XB]
def Va{s t:By}{i:Y}(ht:Ajb t=512)(hm:Ajb s%512=0):Ajb ((Ch.write i t).ap s)%512=0:=by
 rw[Pb ht hm];omega
def dM:∀(T:Ae By) (i:Y) (s:By),(∀t∈T,Ajb t=512)->Ajb s%512=0->Ajb (Uk i T s)=if T=[]then Ajb s else max (Ajb s) ((i+Ajb T)*512)
 |[],i,s,_,_=>rfl
 |t::T,i,s,hT,hm=>by
  have ht:=hT t Bi;rw[Uk,dM T (i+1) _ Bg (Va ht hm),Pb ht hm,Ag (List.cons_ne_nil _ _),Cz];grind
def Aey{g a:Y}{l:Ae Nt}(d:g<=4611686018427387904)(hl:Good l)(e:a+Ajb l<=2147483647)(h:Ajb l<=100):∀k,k<Ajb l+1->(Ct ((txs g a l).getD k [])).1.gen=(g:H):=by
 intro k f;by_cases q:k<Ajb l
 .rw[bD g a l q,(Vw d l a hl e k q).eq]
 .obtain rfl:k=Ajb l:=X;rw[oz,(am Bi d e Bi).eq]
def Ze{g:Y}:∀(ls:Ae (Ae Nt)) (i:Y),i+Dw ls<=20->g<=4611686018427387904->Om ls->∀k,k<Dw ls->(Ct ((DB g i ls).getD k [])).1.gen=(g:H)
 |[],i,_,_,_,k,hk=>by simp[Dw]at hk
 |l::ls,i,hi,hg,hl,k,hk=>by
  rw[PE]at hi hk;have h1:=hl l Bi;by_cases q:k<Ajb l+1
  .have e:(DB g i (l::ls)).getD k []=(txs g i l).getD k []:=by
    rw[DB];simp;rw[FN (by rw[IE];omega)]
   rw[e];exact Aey hg h1.1 X X k q
  .have e:(DB g i (l::ls)).getD k []=(DB g (i+Ajb l+1) ls).getD (k-(Ajb l+1)) []:=by
    rw[DB];simp;rw[Ii (by rw[IE];omega),IE]
   rw[e];exact Ze _ _ X hg (fun x a=>hl x Bg) _ X
def au{gen:H}{rd:Y->By}{m f i:Y}{op:Ae Nt}{out:Ae (Ae Nt)}{b:Y}(hi:m<=i):CK gen rd m f i op out b=(out,b):=by
 cases f with
 |zero=>rfl
 |succ f=>rw[CK,Ag X]
def okT(a:Y)(l:Ae Nt):Prop:=0<Ajb l/\Ajb l+a<20/\∀n∈l,n.kind=1/\Ds n.mem
instance(a:Y)(l:Ae Nt):Decidable (okT a l):=by unfold okT;infer_instance
end Wal
namespace Cat
open Pth Rec Srt Dsk Wal
structure Rest(D:Dv):Prop where
 ok:D.Ok
 dead:D.dead=Aj
 pend:D.pend=[]
 kept:D.kept=D.now
def FR(l:Ae M):Prop:=∀m∈l,m.sum<=4294967295
def Agg:(Ct (EN 512)).2≠0:=by
 unfold Ct;rw[Ag]
 .simp
 .rintro⟨_,_,h⟩;have a:(DI (EN 512)).kind=0:=rfl;unfold ER at h;rw[Ai (by unfold bad;omega)]at h;grind
end Cat
section
open Pth Rec Srt Dsk Wal Cat
abbrev BN:=Bh
def GH(cs:Ae Ch)(s:BN):BN:=cs.foldl (fun a c=>c.ap a) s
def qP(a b:Ae Ch)(s:BN):GH (a++b) s=GH b (GH a s):=Qa ..
def dN:∀(T:Ae BN) (i:Y) (s:BN),GH (chs i T) s=Uk i T s
 |[],_,_=>rfl
 |t::T,i,s=>by
  show GH (chs _ T) _=_;rw[dN];rfl
structure Bt(D:Dv)(cs:Ae Ch)(n:Y)(r:Dv×Y):Prop where
 cap:r.1.cap=D.cap
 calls:r.1.calls<=D.calls+n
 at_:r.1.at_<=D.at_
 keep:Ajb r.1.keep<=Ajb D.keep
 out:(r.2=0/\r.1.dead=Aj/\r.1.kept=D.kept/\r.1.now=GH cs D.now/\r.1.pend=D.pend++cs/\r.1.keep=D.keep)∨
  (r.2=190/\D.at_≠0/\r.1.dead=Af/\r.1.pend=[]/\r.1.kept=r.1.now/\r.1.at_=0/\∃j,r.1.now=DN (D.pend++cs.take j) D.keep D.kept)
def Bt.nil{D:Dv}(h:D.dead=Aj):Bt D [] 0 (D,0):=⟨Z,Bv _,Bv _,Bv _,.inl ⟨Z,h,Z,Z,Bi,Z⟩⟩
def Bt.Ago{D:Dv}(h:D.dead=Aj)(c:Ch):Bt D [c] 1 (D.Ago (J c)):=by
 by_cases a:D.at_=1
 .rw[UE (by exact a)];exact⟨Z,Nf _,BE _,BE _,.inr ⟨Z,X,Z,Z,Z,Z,1,Z⟩⟩
 .rw[UF (by exact a)];exact⟨Z,Bv _,Nat.sub_le _ _,Bv _,.inl ⟨Z,h,Z,Z,Z,Z⟩⟩
def Bt.read{D:Dv}(h:D.dead=Aj){i:H}(h0:0<=i)(h1:i<((Ajb D.now/512:Y):H)):Bt D [] 1 ((D.read i).1,0)/\(D.read i).2=(BT D.now i.toNat,0):=by
 have e:D.read i=(Dh D 1,BT D.now i.toNat,0):=by
  unfold Dv.read;rw[Ag Bg,Ag X];rfl
 rw[e];exact⟨⟨Z,Bv _,Bv _,Bv _,.inl ⟨Z,h,Z,Z,(List.append_nil _).symm,Z⟩⟩,Z⟩
def Bt.trans{D:Dv}{e d:Ae Ch}{n m:Y}{r l:Dv×Y}(h:Bt D e n r)(h0:r.2=0)(a:Bt r.1 d m l):Bt D (e++d) (n+m) l:=by
 rcases h.out with⟨_,y,t,x,w,q⟩|⟨A,_⟩
 .refine⟨a.cap.trans h.cap,by have:=h.calls;have:=a.calls;omega,BC a.at_ h.at_,BC a.keep h.keep,?_⟩;rcases a.out with⟨k,p,i,g,o,f⟩|⟨k,p,i,g,o,f,j,v⟩
  .exact .inl ⟨k,p,i.trans t,by rw[g,x,qP],Bg,f.trans q⟩
  .have:=h.at_;refine .inr ⟨k,X,i,g,o,f,Ajb e+j,?_⟩;rw[v,w,q,t,Cx,List.take_length_add_append]
 .omega
def Bt.stop{D:Dv}{d:Ae Ch}{n:Y}{r:Dv×Y}(h:Bt D d n r)(h0:r.2≠0)(a:Ae Ch){e:Y}(o:n<=e):Bt D (d++a) e r:=by
 refine⟨h.cap,BC h.calls X,h.at_,h.keep,?_⟩;rcases h.out with⟨q,_⟩|⟨m,l,k,i,g,f,j,p⟩
 .omega
 .refine .inr ⟨m,l,k,i,g,f,min j (Ajb d),?_⟩;grind
def Bt.more{D:Dv}{cs:Ae Ch}{n n2:Y}{r:Dv×Y}(h:Bt D cs n r)(hn:n<=n2):Bt D cs n2 r:=⟨h.cap,BC h.calls X,h.at_,h.keep,h.out⟩
def Bt.write{D:Dv}(h:D.dead=Aj){i:Y}{t:BN}(hi:i<D.cap)(ht:Ajb t=512):Bt D [.write i t] 1 (D.write i t):=by
 have e:D.write i t=D.Ago (J (.write i t)):=by
  unfold Dv.write;rw[Ag Bg,Ag X,Ag X];rfl
 rw[e];exact Bt.Ago h _
def Bt.live{D:Dv}{d:Ae Ch}{n:Y}{r:Dv×Y}(h:Bt D d n r)(h0:r.2=0):r.1.dead=Aj:=by
 rcases h.out with⟨_,a,_⟩|⟨a,_⟩
 .omega
 .omega
def Bt.writes:∀(T:Ae BN) {D:Dv} (i:Y),D.dead=Aj->(∀t∈T,Ajb t=512)->i+Ajb T<=D.cap->Bt D (chs i T) (Ajb T) (writes D i T)
 |[],D,i,h,_,_=>Bt.nil h
 |t::T,D,i,h,hT,hi=>by
  rw[Cz]at hi;have b:=Bt.write h (i:=i) (t:=t) X Bg;rw[Tt];show Bt D ([.write i t]++chs (i+1) T) (Ajb T+1) _;split
  .rename_i q;exact(b.trans q (Bt.writes T _ (b.live q) Bg (by rw[b.cap];omega))).more X
  .rename_i q;exact b.stop q _ X
structure Sy(D:Dv)(cs:Ae Ch)(n:Y)(r:Dv×Y):Prop where
 cap:r.1.cap=D.cap
 calls:r.1.calls<=D.calls+n
 at_:r.1.at_<=D.at_
 keep:Ajb r.1.keep<=Ajb D.keep
 pend:r.1.pend=[]
 kept:r.1.kept=r.1.now
 out:(r.2=0/\r.1.dead=Aj/\r.1.now=GH cs D.now)∨(r.2=190/\D.at_≠0/\r.1.dead=Af/\r.1.at_=0/\∃j,r.1.now=DN (cs.take j) D.keep D.now)
def Sy.Ahz{D:Dv}(h:Cat.Rest D){d:Ae Ch}{n:Y}{r:Dv×Y}(b:Bt D d n r)(h0:r.2≠0):Sy D d (n+1) r:=by
 rcases b.out with⟨a,_⟩|⟨m,l,k,i,g,f,j,e⟩
 .omega
 .exact⟨b.cap,by have:=b.calls;omega,b.at_,b.keep,i,g,.inr ⟨m,l,k,f,j,by rw[e,h.pend,h.kept,EP]⟩⟩
def Sy.of_ok{D:Dv}(h:Cat.Rest D){d:Ae Ch}{n:Y}{E:Dv}{e:Y}(b:Bt D d n (E,e))(h0:e=0):Sy D d (n+1) E.sync:=by
 rcases b.out with⟨q,p,o,m,l,k⟩|⟨a,_⟩
 .have g:=b.calls;have j:=b.at_;have i:=b.keep
  have e:E.sync=E.Ago Aa:=by
   unfold Dv.sync;rw[Ag Bg]
  rw[e];by_cases f:E.at_=1
  .rw[UE (by exact f)];refine⟨b.cap,TZ g,BE _,BE _,Z,Z,.inr ⟨Z,?_,Z,Z,Ajb d,?_⟩⟩
   .grind
   .show DN E.pend E.keep E.kept=_;rw[o,l,k,h.pend,h.kept,EP,DV]
  .rw[UF (by exact f)];exact⟨b.cap,Nat.succ_le_succ g,BC (Nat.sub_le _ _) j,i,Z,Z,.inl ⟨Z,p,m⟩⟩
 .omega
def Sy.of{D:Dv}(h:Cat.Rest D){a:Ae Ch}{n:Y}{r:Dv×Y}(b:Bt D a n r):Sy D a (n+1) (if r.2=0 then r.1.sync else r):=by
 split
 .rename_i q;exact Sy.of_ok h b q
 .rename_i q;exact Sy.Ahz h b q
def kW{cap:Y}:∀(cs:Ae Ch) (s:BN),(∀c∈cs,c.ok cap)->Ajb s<=512*cap->Ajb s%512=0->Ajb (GH cs s)<=512*cap/\Ajb (GH cs s)%512=0
 |[],_,_,h1,h2=>⟨h1,h2⟩
 |c::cs,s,h,h1,h2=>kW cs _ Bg (Ul Bg h1) (Xj (h c (HI ..)) h2)
def Sy.ok{D:Dv}(h:Cat.Rest D){a:Ae Ch}{n:Y}{r:Dv×Y}(b:Sy D a n r)(f:∀c∈a,c.ok D.cap):r.1.Ok:=by
 have q:Ajb r.1.now<=512*D.cap/\Ajb r.1.now%512=0:=by
  rcases b.out with⟨_,_,e⟩|⟨_,_,_,_,j,e⟩
  .rw[e];exact kW _ _ f h.ok.now h.ok.nowM
  .rw[e];exact Yk _ _ _ Bg h.ok.now h.ok.nowM
 refine⟨b.cap▸h.ok.cap,?_,?_,?_,q.2,fun c d=>by rw[b.pend]at d;grind⟩
 .rw[b.kept,b.cap];exact q.1
 .rw[b.cap];exact q.1
 .rw[b.kept];omega
def Sy.live{D:Dv}(h:Cat.Rest D){d:Ae Ch}{n:Y}{r:Dv×Y}(b:Sy D d n r)(f:∀c∈d,c.ok D.cap)(h0:r.2=0):Cat.Rest r.1/\r.1.now=GH d D.now:=by
 rcases b.out with⟨_,a,e⟩|⟨a,_⟩
 .exact⟨⟨b.ok h f,a,b.pend,b.kept⟩,e⟩
 .omega
structure Gone(D:Dv):Prop where
 ok:D.Ok
 dead:D.dead=Af
 pend:D.pend=[]
 kept:D.kept=D.now
 at_:D.at_=0
def Sy.Ahf{D:Dv}(h:Cat.Rest D){d:Ae Ch}{n:Y}{r:Dv×Y}(b:Sy D d n r)(f:∀c∈d,c.ok D.cap)(h0:r.2≠0):r.2=190/\Gone r.1/\D.at_≠0/\∃j,r.1.now=DN (d.take j) D.keep D.now:=by
 rcases b.out with⟨a,_⟩|⟨l,k,i,g,j,e⟩
 .omega
 .exact⟨l,⟨b.ok h f,i,b.pend,b.kept,g⟩,k,j,e⟩
def Sy.sm{D:Dv}{cs:Ae Ch}{n k:Y}{r:Dv×Y}(b:Sy D cs n r)(h:Sm D k):Sm r.1 (k+n):=
 ⟨by have:=b.calls;have:=h.calls;omega,by rw[b.pend];simp,BC b.at_ h.at_,BC b.keep h.keep⟩
structure Upn(n:Y)(P:Y->BN->Prop)(s s':BN):Prop where
 le:Ajb s<=Ajb s'∨n*512<=Ajb s'
 sec:∀j,j<Ajb s'/512->(j<Ajb s/512/\BT s' j=BT s j)∨(Ajb s/512<=j/\BT s' j=EN 512)∨P j (BT s' j)
def Upn.refl(n:Y)(P:Y->BN->Prop)(s:BN):Upn n P s s:=⟨X,Bg⟩
def Agh{a b:Y}(h:(b+1)*512<=a):BT (EN a) b=EN 512:=by
 unfold BT EN;grind
def Abx{s z:BN}{j:Y}(h:(j+1)*512<=Ajb s):BT (s++z) j=BT s j:=by
 unfold BT;grind
def Aby{s z:BN}{j:Y}(hm:Ajb s%512=0)(h:Ajb s<=j*512):BT (s++z) j=BT z (j-Ajb s/512):=by
 unfold BT;rw[List.drop_append,Le h,EP,show j*512-Ajb s=(j-Ajb s/512)*512 by omega]
def oS{s t:BN}{i j:Y}(hm:Ajb s%512=0)(ht:Ajb t=512)(g:j<Ajb ((Ch.write i t).ap s)/512):
 BT ((Ch.write i t).ap s) j=if j=i then t else if j<Ajb s/512 then BT s j else EN 512:=by
 have f:=Pb (i:=i) ht hm;by_cases a:j=i∨j<Ajb s/512
 .have:=Acb hm ht a;rw[show BT _ j=sec _ j from Z,this];split
  .rfl
  .rename_i q;rw[Ai X];rfl
 .rw[Ag X,Ag X];rw[Xk]
  have e:Ajb ((s++EN ((i+1)*512-Ajb s)).take (i*512))=i*512:=by
   rw[BZ,BA,PK];omega
  rw[Cx,Abx X]
  have d:BT ((s++EN ((i+1)*512-Ajb s)).take (i*512)) j=BT (s++EN ((i+1)*512-Ajb s)) j:=by
   unfold BT;rw[WA,WN,Hb X]
  rw[d,Aby hm X,Agh X]
def Wr(cs:Ae Ch):Prop:=∀c∈cs,∃j t,c=.write j t/\Ajb t=512
def CZ(cs:Ae Ch)(j:Y)(t:BN):Prop:=Ch.write j t∈cs
def bO{s t:BN}{i:Y}(hm:Ajb s%512=0)(ht:Ajb t=512)(n:Y):Upn n (CZ [.write i t]) s ((Ch.write i t).ap s):=by
 refine⟨.inl (by rw[Pb ht hm];omega),fun j a=>?_⟩;rw[oS hm ht a];by_cases d:j=i
 .subst d;rw[Ai Z];exact .inr (.inr (CF.2 Z))
 .grind
def Upn.trans{n:Y}{P:Y->BN->Prop}{a b c:BN}(h1:Upn n P a b)(e:Upn n P b c)(hl:Ajb a<=Ajb b):Upn n P a c:=by
 refine⟨?_,fun j i=>?_⟩
 .rcases e.le with q|q
  .omega
  .omega
 .rcases e.sec j i with⟨d,h⟩|⟨d,h⟩|q
  .rcases h1.sec j d with⟨g,f⟩|⟨g,f⟩|r
   .grind
   .grind
   .grind
  .grind
  .grind
def Upn.imp{n:Y}{P Q:Y->BN->Prop}{a b:BN}(h:Upn n P a b)(hi:∀j t,P j t->Q j t):Upn n Q a b:=
 ⟨h.le,fun j hj=>(h.sec j hj).imp id Bg⟩
def Wr.cons{c:Ch}{a:Ae Ch}(h:Wr (c::a)):Wr a:=fun d e=>h d Bg
def Yl(n:Y):∀(cs:Ae Ch) (bs:Ae Ar) (s:BN),Wr cs->Ajb s%512=0->Upn n (CZ cs) s (DN cs bs s)/\Ajb s<=Ajb (DN cs bs s)
 |[],_,s,_,_=>⟨Upn.refl _ _ _,Bv _⟩
 |c::cs,[],s,_,_=>⟨Upn.refl _ _ _,Bv _⟩
 |c::cs,b::bs,s,h,hm=>by
  obtain⟨i,t,rfl,ht⟩:=h c Bi;show Upn n _ s (DN _ bs _)/\Ajb s<=Ajb (DN cs _ _);cases b with
  |false=>
   obtain⟨u,l⟩:=Yl n cs bs s h.cons hm;exact⟨u.imp fun j t q=>FO _ q,l⟩
  |true=>
   obtain⟨u,l⟩:=Yl n cs bs ((Ch.write i t).ap s) h.cons (Va ht hm);have hl:Ajb s<=Ajb ((Ch.write i t).ap s):=by rw[Pb ht hm];omega
   exact⟨((bO hm ht n).imp fun j x q=>by rw[CZ,CF]at q;rw[CZ,q];simp).trans (u.imp fun j t q=>FO _ q) hl,Bg⟩
def Xi(n:Y):∀(cs:Ae Ch) (s:BN),Wr cs->Ajb s%512=0->Upn n (CZ cs) s (GH cs s)/\Ajb s<=Ajb (GH cs s)
 |[],s,_,_=>⟨Upn.refl _ _ _,Bv _⟩
 |c::cs,s,h,hm=>by
  obtain⟨i,t,rfl,ht⟩:=h c Bi;obtain⟨u,l⟩:=Xi n cs ((Ch.write i t).ap s) h.cons (Va ht hm);have hl:Ajb s<=Ajb ((Ch.write i t).ap s):=by rw[Pb ht hm];omega
  exact⟨((bO hm ht n).imp fun j x q=>by rw[CZ,CF]at q;rw[CZ,q];simp).trans (u.imp fun j t q=>FO _ q) hl,BC hl l⟩
def dO:∀(cs:Ae Ch) (s:BN),Wr cs->Ajb s%512=0->(∀j t t',CZ cs j t->CZ cs j t'->t=t')->∀j t,CZ cs j t->(j+1)*512<=Ajb (GH cs s)/\BT (GH cs s) j=t
 |[],s,_,_,_,j,t,h=>by cases h
 |c::cs,s,h,hm,hu,j,t,hj=>by
  obtain⟨i,x,rfl,hx⟩:=h c Bi;have hm2:=Va (i:=i) hx hm;have hu2:∀j t t',CZ _ j t->CZ _ j _->t=t':=fun j t t' a b=>hu j t _ (FO _ a) (FO _ b);show(j+1)*512<=Ajb (GH _ ((Ch.write i x).ap s))/\BT (GH _ ((Ch.write i x).ap s)) j=t;by_cases f:∃t',CZ cs j t'
  .obtain⟨t',d⟩:=f;have e:=hu j t _ hj (FO _ d);rw[e];exact dO _ _ h.cons hm2 hu2 j _ d
  .rcases List.mem_cons.1 hj with q|q
   .injection q with g k;subst g k;have n:=Pb (i:=j) hx hm;obtain⟨u,l⟩:=Xi 0 cs _ h.cons hm2;have m:(j+1)*512<=Ajb (GH cs ((Ch.write j t).ap s)):=X;refine⟨m,?_⟩;rcases u.sec j X with⟨g,k⟩|⟨g,_⟩|q
    .rw[k,oS hm hx g,Ai Z]
    .omega
    .grind
   .exact AI ⟨t,q⟩ f
def JP:∀(T:Ae BN) (i j:Y) (t:BN),CZ (chs i T) j t↔i<=j/\j<i+Ajb T/\T.getD (j-i) []=t
 |[],i,j,t=>⟨fun h=>(by cases h),Bg⟩
 |x::T,i,j,t=>by
  have ih:=JP T (i+1) j t;rw[Cz];constructor
  .intro h;rcases List.mem_cons.1 h with q|q
   .grind
   .obtain⟨a,b,c⟩:=ih.1 q;grind
  .rintro⟨a,b,c⟩;by_cases q:j=i
   .subst q;rw[Fa]at c;exact List.mem_cons.2 (.inl Bg)
   .refine FO _ (ih.2 ⟨X,X,?_⟩);grind
def NU:∀(T:Ae BN) (i:Y),(∀t∈T,Ajb t=512)->Wr (chs i T)
 |[],_,_,c,h=>by cases h
 |x::T,i,hT,c,h=>by
  rcases List.mem_cons.1 h with q|q
  .grind
  .exact NU T _ Bg c q
def Qw{T:Ae BN}{i cap:Y}(f:∀t∈T,Ajb t=512)(hi:i+Ajb T<=cap):∀c∈chs i T,c.ok cap:=fun c d=>by
 obtain⟨j,t,rfl,e⟩:=NU T i f c d;obtain⟨a,b,_⟩:=(JP T i j t).1 d;exact⟨X,e⟩
def XC{T:Ae BN}{i:Y}:∀j t t',CZ (chs i T) j t->CZ (chs i T) j t'->t=t':=fun j t t' a b=>((JP T i j t).1 a).2.2.symm.trans ((JP T i j t').1 b).2.2
def Wr.take{a:Ae Ch}(h:Wr a)(j:Y):Wr (a.take j):=fun c d=>h c Bg
def vv{cs:Ae Ch}{k:Y}(j:Y)(t:BN)(h:CZ (cs.take k) j t):CZ cs j t:=Kl h
def Sy.up{D:Dv}(h:Cat.Rest D){a:Ae Ch}{n:Y}{r:Dv×Y}(b:Sy D a n r)(d:Wr a)(m:Y):Upn m (CZ a) D.now r.1.now/\Ajb D.now<=Ajb r.1.now:=by
 rcases b.out with⟨_,_,e⟩|⟨_,_,_,_,j,e⟩
 .rw[e];exact Xi m _ _ d h.ok.nowM
 .rw[e];obtain⟨u,l⟩:=Yl m (a.take j) D.keep D.now (d.take j) h.ok.nowM;exact⟨u.imp vv,l⟩
def Sy.has{D:Dv}(h:Cat.Rest D){d:Ae Ch}{n:Y}{r:Dv×Y}(b:Sy D d n r)(f:Wr d)(h0:r.2=0)(g:∀j t t',CZ d j t->CZ d j t'->t=t'){j:Y}{t:BN}(i:CZ d j t):(j+1)*512<=Ajb r.1.now/\BT r.1.now j=t:=by
 rcases b.out with⟨_,_,e⟩|⟨a,_⟩
 .rw[e];exact dO _ _ f h.ok.nowM g j t i
 .omega
def Il(g:Y)(t:BN):Prop:=(Ct t).2≠0∨(Ct t).1.gen<(g:H)
def UX(g:Y):Il g (EN 512):=.inl Agg
def Il.mono{g h:Y}{t:BN}(q:Il g t)(hg:g<=h):Il h t:=q.imp id X
section
variable{n g h:Y}{P:Y->BN->Prop}{s s':BN}{j:Y}
def Upn.keep(u:Upn n P s s')(h1:j<Ajb s/512)(e:j<n)(d:∀t,¬P j t):j<Ajb s'/512/\BT s' j=BT s j:=by
 have a:j<Ajb s'/512:=by rcases u.le with q|q<;>omega
 refine⟨a,?_⟩;rcases u.sec j a with q|⟨q,_⟩|q
 .grind
 .omega
 .grind
def Upn.low(u:Upn n P s s')(h1:j<Ajb s/512->Il g (BT s j))(d:∀t,¬P j t)(a:j<Ajb s'/512):Il g (BT s' j):=by
 rcases u.sec j a with q|⟨_,q⟩|q
 .grind
 .rw[q];exact UX g
 .grind
end
structure Slot(s:BN)(cap g:Y)(l:Ae M):Prop where
 has:(g%2*5+5)*512<=Ajb s
 sec:∀i,i<5->BT s (g%2*5+i)=Jf g (Cf l) i
 gen:g<=4611686018427387904
 chk:OkC l cap
 sums:FR l
def QT{l:Ae M}{c:H}(h:OkC l c){g:Y}(d:g<=4611686018427387904):OkE g l:=by
 have e:=h.ext.room;refine⟨X,X,h.len,h.may,h.rises,⟨Bi,fun x a=>?_,h.ext.far⟩⟩;have:=h.ext.fit x a;unfold HS at this ⊢;omega
def Slot.okE{s:BN}{cap g:Y}{l:Ae M}(h:Slot s cap g l):OkE g l:=QT h.chk h.gen
def Slot.Ahi{D:Dv}{g:Y}{l:Ae M}(h:Slot D.now D.cap g l):DQ D (g%2)=J ((g:H),l):=by
 have a:Cv D (g%2)=EJ g (Cf l):=by
  refine Kj fun i k=>?_;exact h.sec i Bg
 have d:=sQ h.sums (Sw h.okE);have e:=h.has;have f:Right D (g%2):=⟨by unfold Fh;omega,by rw[a,d],Bg,by rw[a,d];exact h.chk⟩;unfold DQ;grind
def Sa(s:BN)(g:Y):Prop:=∀i,i<5->(1-g%2)*5+i<Ajb s/512->Il g (BT s ((1-g%2)*5+i))
def Xa(s:BN)(g:Y)(ms:Ae M):Prop:=∀i,i<5->(1-g%2)*5+i<Ajb s/512->Il g (BT s ((1-g%2)*5+i))∨BT s ((1-g%2)*5+i)=Jf ((g+1:Y):H) (Cf ms) i
def yK{D:Dv}{g:Y}{f:Ae M}(h:Xa D.now g f)(t:g+1<=4611686018427387904)(w:OkC f D.cap)(x:FR f):
 DQ D (1-g%2)=Aa∨(∃b,DQ D (1-g%2)=J b/\b.1<(g:H))∨(DQ D (1-g%2)=J (((g+1:Y):H),f)/\Slot D.now D.cap (g+1) f):=by
 obtain⟨k,hk⟩:∃k,k=1-g%2:=⟨_,Z⟩;unfold Xa at h;rw[<-hk]at h ⊢;rcases NZ (Right D k)with hr|hr
 .right
  have v:OkD (Cv D k):=IG fun z=>by
   have:=hr.dec;rw[Su z]at this;grind
  have A:=hr.has;unfold Fh at A;have r:=VF D k
  have o:∀i (a:i<5),(Ct (BT D.now (k*5+i))).2=0/\(Ct (BT D.now (k*5+i))).1.gen=Ed (Cv D k):=fun i a=>by
   have q:=ZN v (i:=i) (by rw[r];exact a);have e:(Cv D k)[i]'(by rw[r];exact a)=BT D.now (k*5+i):=by simp[Cv]
   grind
  have G:=QT w t;by_cases d:∃i,i<5/\Il g (BT D.now (k*5+i))
  .left;obtain⟨i,a,l⟩:=d;obtain⟨E,C⟩:=o i a
   have B:Ed (Cv D k)<(g:H):=by
    rcases l with l|l
    .omega
    .omega
   refine⟨((CB (Cv D k)).1,(CB (Cv D k)).2.1),?_,?_⟩
   .unfold DQ;grind
   .show(CB (Cv D k)).1<_;rw[Qz v];omega
  .right;have p:∀i,i<5->BT D.now (k*5+i)=Jf ((g+1:Y):H) (Cf f) i:=fun i a=>(h i a X).resolve_left fun q=>d ⟨i,a,q⟩;have y:(g+1)%2=k:=X;have m:Slot D.now D.cap (g+1) f:=⟨X,fun i a=>by grind,t,w,x⟩;have:=m.Ahi;grind
 .left;unfold DQ;grind
def TW(s:BN)(g:Y):Prop:=∀k,k<20->10+k<Ajb s/512->Il g (BT s (10+k))
structure Clean(s:BN)(g:Y)(ls:Ae (Ae Nt))(nx:Y):Prop where
 good:Om ls
 tot:Dw ls=nx
 le:nx<=20
 has:nx=0∨(10+nx)*512<=Ajb s
 sec:∀k,k<nx->BT s (10+k)=(DB g 0 ls).getD k []
 low:∀k,nx<=k->k<20->10+k<Ajb s/512->Il g (BT s (10+k))
def aw{gen:H}{rd:Y->BN}{m f i:Y}{op:Ae Nt}{out:Ae (Ae Nt)}{b:Y}(h:(Ct (rd i)).2≠0∨(Ct (rd i)).1.gen≠gen):CK gen rd m f i op out b=(out,b):=by
 cases f with
 |zero=>rfl
 |succ f=>
  rw[CK];grind
def Il.stop{g:Y}{t:BN}(h:Il g t):(Ct t).2≠0∨(Ct t).1.gen≠(g:H):=h.imp id X
def Clean.front{s:BN}{g nx:Y}{a:Ae (Ae Nt)}(h:Clean s g a nx)(m:g<=4611686018427387904):Wal.replay s g=CK g (fun i=>Wal.sec s (10+i)) (Ek s) (21-nx) nx [] a nx/\nx<=Ek s:=by
 have l:nx<=Ek s:=by
  have p:=h.le;unfold Ek;rcases h.has with q|q<;>omega
 have d:Ek s<=20:=Nat.min_le_left _ _;have f:=ar (rd:=fun i=>Wal.sec s _) m d _ (21-nx) 0 [] 0 h.good (fun k o=>by rw[Fb];exact h.sec k (by rw[<-h.tot];omega)) (by rw[h.tot,Fb];omega);rw[h.tot,show 21-nx+nx=21 by omega,Fb,EP]at f;refine⟨f.trans ?_,l⟩;by_cases e:a=[]
 .subst e;rw[Ai Z,<-h.tot];rfl
 .grind
def Clean.replay{s:BN}{g nx:Y}{a:Ae (Ae Nt)}(h:Clean s g a nx)(d:g<=4611686018427387904):Wal.replay s g=(a,nx):=by
 rw[(h.front d).1];by_cases q:nx<Ek s
 .have e:=h.low nx X (by unfold Ek at q;omega) (by unfold Ek at q;omega);exact aw e.stop
 .exact au X
end
section
open Pth Rec Srt Dsk Wal Cat Tar
structure At(s:BN)(a:Y)(t:BN):Prop where
 whole:Ajb t%512=0
 pos:0<Ajb t/512
 has:(a+Ajb t/512)*512<=Ajb s
 sec:∀k,k<Ajb t/512->BT s (a+k)=BT t k
def Aeh{s t:BN}{a b:Y}(n:Y):(a+n)*512<=Ajb s->(b+n)*512<=Ajb t->(∀k,k<n->BT s (a+k)=BT t (b+k))->(s.drop (a*512)).take (n*512)=(t.drop (b*512)).take (n*512):=by
 induction n with
 |zero=>
  simp
 |succ n ih=>
  intro i f h;have e:=i;have d:=f;have o:=aH s a n e;have j:=aH t b n d;grind
def At.now{s t:BN}{a:Y}(h:At s a t):(s.drop (a*512)).take (Ajb t)=t:=by
 have f:=h.whole;have e:=Aeh (t:=t) (b:=0) _ h.has X (fun k d=>by rw[Fb];exact h.sec k d);grind
def At.of{s t:BN}{a:Y}(d:Ajb t%512=0)(h0:0<Ajb t/512)(f:(a+Ajb t/512)*512<=Ajb s)(h:(s.drop (a*512)).take (Ajb t)=t):At s a t:=by
 refine⟨d,h0,f,fun k i=>?_⟩;have e:BT t k=(((s.drop (a*512)).take (Ajb t)).drop (k*512)).take 512:=by rw[h];rfl
 rw[e,WA,WN,Gj,Hb X,show a*512+k*512=(a+k)*512 by omega];rfl
def At.up{n a:Y}{P:Y->BN->Prop}{s s' t:BN}(h:At s a t)(u:Upn n P s s')(j:a+Ajb t/512<=n)(f:∀k,k<Ajb t/512->∀y,¬P (a+k) y):At s' a t:=by
 have o:=h.has;have i:=h.pos;have d:=fun k e=>u.keep X X (f k e);have:=(d (Ajb t/512-1) X).1;exact⟨h.whole,i,X,fun k e=>(d k e).2.trans (h.sec k e)⟩
def Stands.at_{D:Dv}{m:M}{x:En}(h:Stands D m x):At D.now m.start.toNat (Cl x):=by
 have a:=JN h.fits;have f:=h.len;have d:=h.now;rw[f]at d;have e:=Av DZ d;rw[BZ,CM]at e;exact At.of a.1 X X d
def Stands.of{D:Dv}{m:M}{x:En}(hf:Fits x)(h1:0<=m.start)(a:m.sectors=Cc x)(e:m.size=(Ajb x.data:H))(i:m.sum=Fc x.data)(h:At D.now m.start.toNat (Cl x)):Stands D m x:=by
 have f:=JN hf;have d:m.sectors.toNat*512=Ajb (Cl x):=by rw[a];unfold Cc;omega
 refine⟨hf,h1,by rw[a];omega,e,i,d,?_⟩;rw[d];exact h.now
def Stands.Ahk{D:Dv}{m:M}{x:En}(h:Stands D m x):m.sectors=Cc x:=by
 have d:=h.len;have a:=h.sectors;unfold Cc;omega
def Wh(P:Y->BN->Prop)(x:Xt):Prop:=∀k:Y,x.1<=(k:H)->(k:H)<x.1+x.2->∀y,¬P k y
def Stands.up{D D':Dv}{m:M}{x:En}{n:Y}{P:Y->BN->Prop}(h:Stands D m x)(u:Upn n P D.now D'.now)(d:m.start+m.sectors<=n)(a:Wh P (m.start,m.sectors)):Stands D' m x:=by
 have e:=h.Ahk;have i:=h.start;unfold Cc at e;refine Stands.of h.fits X h.Ahk h.size h.sum (h.at_.up u X fun k f y=>a _ ?_ ?_ y)
 .omega
 .omega
inductive Fil(D:Dv):Ae M->Ae En->Prop
 |nil:Fil D [] []
 |cons {m:M} {x:En} {ms:Ae M} {xs:Ae En}:m.path=x.path->Stands D m x->Fil D ms xs->Fil D (m::ms) (x::xs)
section
variable{D D':Dv}{ms:Ae M}{fs:Ae En}
def Fil.imp(h:Fil D ms fs)(hi:∀m∈ms,∀x,Stands D m x->Stands D' m x):Fil D' ms fs:=by
 induction h with
 |nil=>exact .nil
 |cons h1 h2 _ ih=>exact .cons h1 Bg Bg
def Fil.same(h:Fil D ms fs)(e:D'.now=D.now):Fil D' ms fs:=
 h.imp fun m _ x q=>⟨q.fits,q.start,q.sectors,q.size,q.sum,q.len,by rw[e];exact q.now⟩
def Fil.up{n:Y}{P:Y->BN->Prop}(h:Fil D ms fs)(u:Upn n P D.now D'.now)(hn:∀m∈ms,m.start+m.sectors<=n)(hp:∀m∈ms,Wh P (m.start,m.sectors)):Fil D' ms fs:=
 h.imp fun m hm x q=>q.up u (hn m hm) (hp m hm)
def Fil.keys(h:Fil D ms fs):ms.map M.path=fs.map En.path:=by
 induction h with
 |nil=>rfl
 |cons h1 _ _ ih=>grind
def Fil.len(h:Fil D ms fs):Ajb ms=Ajb fs:=by
 have:=Av DZ h.keys;grind
def Fil.at_(h:Fil D ms fs):∀{i:Y} (hi:i<Ajb ms) (hj:i<Ajb fs),ms[i].path=fs[i].path/\Stands D ms[i] fs[i]:=by
 induction h with
 |nil=>simp
 |cons h1 h2 _ ih=>
  grind
def Fil.mem(h:Fil D ms fs){m:M}(hm:m∈ms):∃x∈fs,m.path=x.path/\Stands D m x:=by
 induction h with
 |nil=>grind
 |cons h1 h2 _ ih=>
  grind
def rZ{α β:Type}{k1:α->BN}{k2:β->BN}{a e:α}{b d:β}(h:k1 a=k2 b)(f:k1 e=k2 d):Cg k1 a e=Cg k2 b d:=by
 unfold Cg;grind
def Fil.ins{m:M}{x:En}(h:Fil D ms fs)(h1:m.path=x.path)(a:Stands D m x):Fil D (Cd M.path m ms) (Cd En.path x fs):=by
 induction h with
 |nil=>exact .cons h1 a .nil
 |cons a1 a2 a3 ih=>
  unfold Cd;rw[rZ h1 a1];split
  .exact .cons h1 a (.cons a1 a2 a3)
  .split
   .exact .cons h1 a a3
   .exact .cons a1 a2 ih
def Fil.del(h:Fil D ms fs)(p:BN):Fil D (ms.filter fun m=>decide (m.path≠p)) (fs.filter fun x=>decide (x.path≠p)):=by
 induction h with
 |nil=>exact .nil
 |cons a1 a2 _ ih=>
  rw[LV,LV,a1];split
  .exact .cons a1 a2 ih
  .omega
end
section
variable{s s':BN}{cap g n nx:Y}{l:Ae M}{ls:Ae (Ae Nt)}{P:Y->BN->Prop}
def Slot.up(h:Slot s cap g l)(u:Upn n P s s')(f:10<=n)(e:∀j,j<10->∀t,¬P j t):Slot s' cap g l:=by
 have o:=h.has;have k:∀i,i<5->g%2*5+i<Ajb s'/512/\BT _ _=BT s _:=fun i a=>u.keep X X Bg;have d:=(k 4 Bi).1;exact⟨X,fun i a=>(k i a).2.trans (h.sec i a),h.gen,h.chk,h.sums⟩
def Sa.up(h:Sa s g)(u:Upn n P s s')(e:∀j,j<10->∀t,P j t->Il g t):Sa s' g:=fun i d a=>by
 rcases u.sec _ a with q|⟨_,q⟩|q
 .rw[q.2];exact h i d q.1
 .rw[q];exact UX g
 .grind
def Clean.up(h:Clean s g ls nx)(u:Upn n P s s')(q:30<=n)(p:∀j,10<=j->j<30->∀t,¬P j t):Clean s' g ls nx:=by
 have v:=h.le;have r:=h.has;have a:∀k,k<nx->10+k<Ajb s'/512/\BT _ _=BT s _:=fun k d=>u.keep X X Bg;refine⟨h.good,h.tot,h.le,?_,fun k d=>(a k d).2.trans (h.sec k d),fun k o i f=>u.low (h.low k o i) Bg f⟩;rcases Jy nx with e|e
 .omega
 .have:=(a (nx-1) X).1;omega
end
structure Arc(D:Dv)(g nx:Y)(ms:Ae M):Prop where
 rest:Cat.Rest D
 cap:31<=D.cap
 made:∃ms0 ls,Slot D.now D.cap g ms0/\Clean D.now g ls nx/\ms=DJ ms0 ls/\∀i,i<=Ajb ls->OkC (DJ ms0 (ls.take i)) D.cap/\FR (DJ ms0 (ls.take i))
 oth:Sa D.now g
section
variable{D D':Dv}{g nx m:Y}{ms:Ae M}{fs:Ae En}{P:Y->BN->Prop}
def Arc.ok(h:Arc D g nx ms):OkC ms D.cap/\FR ms:=by
 obtain⟨a,ls,_,_,rfl,d⟩:=h.made;have:=d _ (Bv _);grind
def Arc.gle(h:Arc D g nx ms):g<=4611686018427387904/\nx<=20:=by
 obtain⟨a,ls,e,d,_,_⟩:=h.made;exact⟨e.gen,d.le⟩
def Arc.up(h:Arc D g nx ms)(e:Cat.Rest D')(a:D'.cap=D.cap)(u:Upn m P D.now D'.now)(hm:30<=m)(o:∀j t,P j t->30<=j):Arc D' g nx ms:=by
 obtain⟨d,ls,k,i,f,p⟩:=h.made;exact⟨e,a▸h.cap,⟨_,_,by rw[a];exact k.up u X Bg,i.up u hm Bg,f,Bg⟩,h.oth.up u Bg⟩
def aE{l:Ae M}(h:Cat.Rest D)(d:OkE g l)(e:OkC l D.cap)(a:10<=D.cap):Sy D (chs (g%2*5) (EJ g (Cf l))) 6 (CR D g l):=by
 rw[mJ ⟨d,e⟩];have b:=Bt.writes (EJ g (Cf l)) (g%2*5) h.dead (Te _) (by rw[IC];omega);have:=Sy.of h b;assumption
def Sy.zero{a:Ae Ch}{n:Y}{r:Dv×Y}(b:Sy D a n r)(d:D.at_=0):r.2=0:=by
 rcases b.out with⟨q,_⟩|⟨_,q,_⟩
 .omega
 .omega
def sy_at{cs:Ae Ch}{n:Y}{r:Dv×Y}(b:Sy D cs n r)(ha:D.at_=0):r.1.at_=0:=Nat.le_zero.1 (ha▸b.at_)
def Ro{l:Ae M}{i j:Y}{t:BN}(h:CZ (chs i (EJ g (Cf l))) j t):i<=j/\j<i+5:=by
 obtain⟨a,b,_⟩:=(JP _ _ _ _).1 h;rw[IC]at b;omega
def js{l:Ae M}{i k:Y}(h:k<5):CZ (chs i (EJ g (Cf l))) (i+k) (Jf g (Cf l) k):=by
 refine(JP _ _ _ _).2 ⟨X,by rw[IC];omega,?_⟩;rw[Kr,Ck,aI _ _ h];rfl
def qT{ns:Ae Nt}(h:Cat.Rest D)(j:31<=D.cap)(o:g<=4611686018427387904)(k:ns≠[])(a:Wal.Good ns)(i:nx+Ajb ns+1<=20):
 Sy D (chs (10+nx) (txs g nx ns)) (Ajb ns+2) ((Fs D (g:H) (nx:H) ns).1,(Fs D (g:H) (nx:H) ns).2.2)/\((Fs D (g:H) (nx:H) ns).2.2=0->(Fs D (g:H) (nx:H) ns).2.1=((nx+Ajb ns+1:Y):H)):=by
 have d:Ajb ns≠0:=Bg;have f:=fun n d=>(a n d).1;have b:=Bt.writes (txs g nx _) (10+nx) h.dead (VW f) (by rw[IE];omega);rw[IE]at b;have q:=Sy.of h b;obtain⟨r,hr⟩:∃r,r=writes D (10+nx) (txs g nx ns):=Bi;have e:Fs D g nx ns=if r.2=0 then(if r.1.sync.2=0 then(r.1.sync.1,(nx:H)+Ajb ns+1,0)else(r.1.sync.1,0,r.1.sync.2))else(r.1,0,r.2):=hr▸dP (by unfold Io;omega) f;grind
def Ru{ns:Ae Nt}{i j:Y}{t:BN}(h:CZ (chs i (txs g nx ns)) j t):i<=j/\j<i+(Ajb ns+1):=by
 obtain⟨a,b,_⟩:=(JP _ _ _ _).1 h;rw[IE]at b;omega
def Arc.Ais{ns:Ae Nt}(h:Arc D g nx ms)(L:ns≠[])(e:Wal.Good ns)(p:nx+Ajb ns+1<=20)(K:OkC (Dl ms ns) D.cap)(y:FR (Dl ms ns)){n:Y}{r:Dv×Y}(b:Sy D (chs (10+nx) (txs g nx ns)) n r)(h0:r.2=0):Arc r.1 g (nx+Ajb ns+1) (Dl ms ns)/\Upn 4096 (fun j _=>j<30) D.now r.1.now:=by
 have w:=h.rest;have B:=h.cap;have Q:=fun n N=>(e n N).1;have C:∀t∈txs g nx _,Ajb t=512:=VW Q;have x:=NU _ (10+nx) C;have o:∀c∈chs (10+nx) _,c.ok D.cap:=Qw C (by rw[IE];omega);obtain⟨I,_⟩:=b.live w o h0;obtain⟨u,A⟩:=b.up w x 4096;have G:∀k,k<Ajb ns+1->(10+nx+k+1)*512<=Ajb r.1.now/\BT _ _=(txs g nx ns).getD k []:=fun k S=>b.has w x h0 XC ((JP _ _ _ _).2 ⟨X,by rw[IE];omega,Bi⟩);obtain⟨v,ls,a1,d,W,a4⟩:=h.made;have E:Upn 4096 (fun j _=>j<30) _ _:=u.imp fun j t q=>by have:=Ru q;omega
 have np:∀j,j<10+nx->∀t,¬CZ (chs (10+nx) (txs g nx ns)) j t:=fun j hj t q=>by have:=Ru q;omega
 have a:DJ v (ls++[ns])=Dl ms ns:=by rw[YB,<-W]
 have f:Dw (ls++[ns])=nx+Ajb ns+1:=by rw[<-d.tot];simp[Dw];omega
 refine⟨⟨I,by rw[b.cap];omega,⟨_,_,by rw[b.cap];exact a1.up u Bi Bg,⟨?_,f,p,?_,?_,?_⟩,a.symm,?_⟩,h.oth.up u Bg⟩,E⟩
 .intro l A;rcases Dx.1 A with q|q
  .exact d.good l q
  .grind
 .have q:=(G (Ajb ns) X).1;omega
 .intro k S;rw[jJ,d.tot,Fb,Ck];by_cases q:k<nx
  .rw[FN (by rw[UT,d.tot];omega),<-Ck];have h9:=d.has;exact(u.keep X X Bg).2.trans (d.sec k q)
  .rw[Ii (by rw[UT,d.tot];omega),UT,d.tot,<-Ck];grind
 .intro k h2 V T;exact u.low (d.low k X V) (fun t q=>by have:=Ru q;omega) T
 .intro i hi;rw[b.cap];by_cases q:i<=Ajb ls
  .grind
  .rw[Dq Bg,a];grind
end
def Pz(l:Ae M)(n:Nt):Ae M:=if n.kind=1 then Cd M.path n.mem l else if n.kind=2 then l.filter (fun y=>decide (y.path≠n.mem.path))else l
def vL{m:BN->Aw M}{a:Ae M}(h:IsMap M.path m a)(n:Nt):IsMap M.path (NQ m n) (Pz a n):=by
 unfold NQ Pz;split
 .exact h.put _ _
 .split
  .exact h.del _ _
  .exact h
def Np{l:Ae M}(h:Dg M.path l)(ns:Ae Nt):Dl l ns=ns.foldl Pz l:=by
 refine Un ?_
 have d:∀(ns:Ae _) (m:BN->Aw M) (a:Ae M),IsMap M.path m a->IsMap M.path (ns.foldl _ m) (ns.foldl _ a):=fun ns=>by
  induction ns with
  |nil=>simp
  |cons n ns ih=>exact fun m a q=>ih _ _ (vL q n)
 exact d _ _ _ (jB _ h)
def Zj{α:Type}(key:α->BN)(x:α):∀l:Ae α,(Cd key x l).map key=Cd id (key x) (l.map key)
 |[]=>rfl
 |y::l=>by
  have e:Cg key x y=Cg id _ _:=rfl;rw[Co];unfold Cd;rw[e];split
  .rfl
  .split
   .rfl
   .rw[Co,Zj]
def SG(ks l:Ae BN):Ae BN:=ks.foldl (fun l k=>Cd id k l) l
def VB{α β:Type}{k1:α->BN}{k2:β->BN}{a:Ae α}{b:Ae β}(e:a.map k1=b.map k2)(h:Dg k1 a):Dg k2 b:=by
 have d:(a.map _).Pairwise (fun x y=>Gc x y=-1):=LX.2 h;rw[e]at d;exact LX.1 d
def jH:∀(ks l:Ae BN),Dg id l->(∀k∈ks,k∈SG ks l)/\∀y∈l,y∈SG ks l
 |[],l,_=>⟨Bi,fun y hy=>hy⟩
 |a::ks,l,h=>by
  have h2:=MF _ a h;obtain⟨i1,i2⟩:=jH ks _ h2;have hm:=Ms id a h;refine⟨fun k hk=>?_,fun y hy=>i2 _ ((hm y).2 ?_)⟩
  .rcases List.mem_cons.1 hk with rfl|q
   .exact i2 _ ((hm _).2 (.inl Z))
   .exact i1 k q
  .grind
def ZD{α:Type}[DecidableEq α]:∀(a b:Ae α),a.Nodup->(∀x∈a,x∈b)->Ajb a<=Ajb b
 |[],_,_,_=>BE _
 |x::a,b,h,hs=>by
  rw[TR]at h;have ih:=ZD a (b.erase x) h.2 Bg;grind
def mn{α:Type}{key:α->BN}{l:Ae α}(h:Dg key l){x y:α}(hx:x∈l)(a:y∈l)(e:key x=key y):x=y:=by
 have q:=jB _ h;have f:=(q.mem x).1 hx;have d:=(q.mem y).1 a;grind
def jv{α:Type}{key:α->BN}{l:Ae α}(h:Dg key l){x:α}(hx:x∈l):Cd key x l=l:=
 ax key (MF key x h) h fun z=>(Ms key x h z).trans ⟨Bg,fun q=>by
  by_cases e:key z=key x
  .exact .inl (mn h q hx e)
  .grind⟩
def Adg(x:En):GR x=Jh En.path x:=by
 funext r y;unfold GR Jh;have e:Cg _ x y=Gc x.path _:=rfl;grind
def Afo{l:Ae En}(h:Dg En.path l)(x:En):CW l x=Cd En.path x l:=by
 rw[<-vy _ h];unfold CW EM insF SB;rw[Adg]
def oL:∀(xs l:Ae En),Dg En.path l->xs.foldl CW l=xs.foldl (fun f x=>Cd En.path x f) l/\Dg En.path (xs.foldl CW l)
 |[],l,h=>⟨Z,h⟩
 |x::xs,l,h=>by
  have e:=Afo h x;have h2:Dg En.path (CW l x):=e▸MF En.path x h;obtain⟨i1,i2⟩:=oL xs _ h2;grind
def zH{α:Type}{R:α->α->Prop}(d:∀a b,R a b->R b a){l:Ae α}(h:l.Pairwise R):∀a∈l,∀b∈l,a=b∨R a b:=by
 induction h with
 |nil=>simp
 |cons h1 _ ih=>
  grind
def kY{l l':Ae Xt}{cap:H}(h:OkX l cap)(hs:l'.Sublist l):OkX l' cap:=⟨h.room,fun x hx=>h.fit x Bg,h.far.sublist hs⟩
def ju{α:Type}{key:α->BN}(x:α){l:Ae α}(h:Dg key l):(Cd key x l).Perm (x::l.filter fun y=>decide (key y≠key x)):=by
 have d:∀{l:Ae _},Dg _ l->l.Nodup:=fun h=>h.imp fun {a b} q e=>by
  rw[(JF _ a b).2 (Av key e)]at q;omega
 have f:=d (MF _ x h)
 have e:∀z,z∈Cd _ x l↔z∈x::l.filter fun y=>decide (key y≠key x):=fun z=>by
  rw[Ms _ x h z];simp
 classical
 grind
def Yi{m:M}{l:Ae M}{r:Ae Xt}{cap:H}(hl:Dg M.path l)(h:OkX (BY l++(m.start,m.sectors)::r) cap):OkX (BY (Cd M.path m l)++r) cap:=by
 have d:(BY _++r).Perm ((m.start,m.sectors)::(BY _++r)):=((ju m hl).map _).append_right r;rw[SP d];have a:((m.start,m.sectors)::(BY l++r)).Perm (BY l++(m.start,m.sectors)::r):=Bg;rw[<-SP a]at h;exact kY h (List.Sublist.cons_cons _ (List.Sublist.append (List.Sublist.map _ Bi) Bi))
def tU{l:Ae M}{cap:H}(h:OkX (BY l) cap)(p:BN):OkX (BY (l.filter fun y=>decide (y.path≠p))) cap:=kY h (List.Sublist.map _ List.filter_sublist)
def mz(z:Xt×En):M:=⟨z.2.path,z.1.1,z.1.2,(Ajb z.2.data:H),Fc z.2.data⟩
def bV:∀(l:Ae En) (ps:Ae Xt),HK DC l ps=(ps.zip l).map fun z=>⟨1,mz z⟩
 |[],ps=>by simp
 |x::l,[]=>rfl
 |x::l,p::ps=>by
  rw[List.zipWith_cons_cons,WP,Co,bV];rfl
def YD(zs:Ae (Xt×En))(l:Ae M):(zs.map fun z=>(⟨1,mz z⟩:Nt)).foldl Pz l=zs.foldl (fun l z=>Cd M.path (mz z) l) l:=by
 rw[WD];rfl
def lS{D:Dv}{cap:H}:∀(zs:Ae (Xt×En)) (ms:Ae M) (fs:Ae En),Dg M.path ms->OkX (BY ms++zs.map Prod.fst) cap->Fil D ms fs->(∀z∈zs,Stands D (mz z) z.2)->
 Dg M.path (zs.foldl (fun l z=>Cd M.path (mz z) l) ms)/\OkX (BY (zs.foldl (fun l z=>Cd M.path (mz z) l) ms)) cap/\Fil D (zs.foldl (fun l z=>Cd M.path (mz z) l) ms) ((zs.map Sb).foldl (fun f x=>Cd En.path x f) fs)/\
  ∀m∈zs.foldl (fun l z=>Cd M.path (mz z) l) ms,m∈ms∨∃z∈zs,m=mz z
 |[],ms,fs,h1,h2,h3,_=>⟨h1,Bg,h3,Bi⟩
 |z::zs,ms,fs,h1,h2,h3,h4=>by
  obtain⟨i1,i2,i3,i4⟩:=lS (D:=D) (cap:=cap) zs _ _ (MF M.path (mz z) h1) (Yi (m:=mz z) h1 h2) (h3.ins (m:=mz z) (x:=z.2) Z Bg) Bg;refine⟨i1,i2,i3,fun m hm=>?_⟩;rcases i4 m hm with q|⟨y,hy,e⟩
  .rcases(Ms _ _ h1 m).1 q with q|q
   .grind
   .grind
  .grind
def ah:∀(zs:Ae M) (ms:Ae M),(zs.foldl (fun l m=>Cd M.path m l) ms).map M.path=SG (zs.map M.path) (ms.map M.path)
 |[],ms=>rfl
 |z::zs,ms=>by
  rw[Kh,ah,Zj];rfl
end
section
open Pth Rec Srt Dsk Wal Cat
def Ef(D:Dv):Dv:={ D with dead:=Aj }
def Gone.up{D:Dv}(h:Gone D):Cat.Rest (Ef D):=⟨⟨h.ok.cap,h.ok.kept,h.ok.now,h.ok.keptM,h.ok.nowM,h.ok.pend⟩,Z,h.pend,h.kept⟩
def lw{D:Dv}{g:Y}(h:Sa D.now g):DQ D (1-g%2)=Aa∨∃b,DQ D (1-g%2)=J b/\b.1<(g:H):=by
 obtain⟨k,hk⟩:∃k,k=1-g%2:=⟨_,Z⟩;unfold Sa at h;rw[<-hk]at h ⊢;by_cases d:Right D k
 .right
  have j:OkD (Cv D k):=IG fun z=>by
   have:=d.dec;rw[Su z]at this;cases this
  have n:=d.has;unfold Fh at n;have f:=VF D k;have q:=ZN j (i:=0) (by rw[f];decide);have e:(Cv D k)[0]'(by rw[f];decide)=BT D.now (k*5+0):=by simp[Cv]
  rw[e]at q
  have l:Ed (Cv D k)<(g:H):=by
   rcases h 0 Bc X with a|a
   .exact AI q.2.1 a
   .rw[q.2.2.2.1]at a;exact a
  refine⟨((CB (Cv D k)).1,(CB (Cv D k)).2.1),?_,?_⟩
  .unfold DQ;rw[Ai d]
  .show(CB (Cv D k)).1<_;rw[Qz j];exact l
 .left;unfold DQ;rw[Ag d]
structure Can(D:Dv)(g:Y)(ms:Ae M):Prop where
 rest:Cat.Rest D
 cap:31<=D.cap
 made:∃ms0 ls nx,Slot D.now D.cap g ms0/\Wal.replay D.now g=(ls,nx)/\Om ls/\Dw ls<=20/\ms=DJ ms0 ls/\∀i,i<=Ajb ls->OkC (DJ ms0 (ls.take i)) D.cap/\FR (DJ ms0 (ls.take i))
 oth:DQ D (1-g%2)=Aa∨∃b,DQ D (1-g%2)=J b/\b.1<(g:H)
 log:TW D.now (g+1)
section
variable{D D':Dv}{g nx m:Y}{ms:Ae M}{P:Y->BN->Prop}
def Can.ok(h:Can D g ms):OkC ms D.cap/\FR ms:=by
 obtain⟨a,e,_,_,_,_,_,rfl,d⟩:=h.made;have:=d _ (Bv _);rwa[Dq (Bv _)]at this
def Clean.Ahc{s:BN}{a:Ae (Ae Nt)}(h:Clean s g a nx)(f:g<=4611686018427387904):TW s (g+1):=fun k d e=>by
 by_cases q:k<nx
 .refine .inr ?_;have t:=h.tot;rw[h.sec k q,Ze (g:=g) a 0 (by have:=h.le;omega) f h.good k X];omega
 .exact(h.low k X d e).mono (Nf g)
def Arc.can(h:Arc D g nx ms):Can D g ms:=by
 obtain⟨d,f,e,a,j,i⟩:=h.made;exact⟨h.rest,h.cap,⟨d,f,nx,e,a.replay e.gen,a.good,by rw[a.tot];exact a.le,j,i⟩,lw h.oth,a.Ahc e.gen⟩
def Can.saved(h:Can D g ms)(N:g+1<=4611686018427387904){n:Y}{r:Dv×Y}(b:Sy D (chs ((g+1)%2*5) (EJ ((g+1:Y):H) (Cf ms))) n r)(h0:r.2=0):Arc r.1 (g+1) 0 ms/\Upn 4096 (fun j _=>j<10) D.now r.1.now:=by
 have x:=h.rest;have f:=h.cap;have G:∀t∈EJ ((g+1:Y):H) (Cf ms),Ajb t=512:=Te _;have B:=NU _ ((g+1)%2*5) G;have w:∀c∈chs ((g+1)%2*5) (EJ ((g+1:Y):H) (Cf ms)),c.ok D.cap:=Qw G (by rw[IC];omega);obtain⟨L,_⟩:=b.live x w h0;obtain⟨u,E⟩:=b.up x B 4096;have C:∀k,k<5->((g+1)%2*5+k+1)*512<=Ajb r.1.now/\BT r.1.now ((g+1)%2*5+k)=Jf ((g+1:Y):H) (Cf ms) k:=fun k a=>b.has x B h0 XC (js a);obtain⟨v,S,nx,I,_⟩:=h.made;obtain⟨A,y⟩:=h.ok;have K:Upn 4096 (fun j _=>j<10) D.now r.1.now:=u.imp fun j t q=>by have:=Ro q;show j<10;omega
 refine⟨⟨L,by rw[b.cap];exact f,⟨ms,[],⟨?_,fun i p=>(C i p).2,N,by rw[b.cap];exact A,y⟩,⟨fun l E=>(by cases E),Z,Bc,.inl Z,fun k a=>absurd a (WU k),?_⟩,Z,fun i _=>by rw[List.take_nil,b.cap];exact⟨A,y⟩⟩,?_⟩,K⟩
 .have:=(C 4 Bc).1;omega
 .intro k _ a o;exact u.low (g:=g+1) (fun d=>h.log k a d) (fun t q=>by have:=Ro q;omega) o
 .intro i p o;have e:(1-(g+1)%2)*5+i=g%2*5+i:=X;rw[e]at o ⊢;refine u.low (g:=g+1) (fun d=>.inr ?_) (fun t q=>by have:=Ro q;omega) o;have Q:=XS (gen:=(g:H)) X (by have:=I.gen;omega) (Cf v) p;rw[I.sec i p,Q];show(g:H)<((g+1:Y):H);omega
def Arc.Ahm(h:Arc D g nx ms)(A:g+1<=4611686018427387904){n:Y}{r:Dv×Y}(b:Sy D (chs ((g+1)%2*5) (EJ ((g+1:Y):H) (Cf ms))) n r)(h0:r.2≠0):
 r.2=190/\Gone r.1/\D.at_≠0/\(∃G,G<=g+1/\Can (Ef r.1) G ms)/\Upn 4096 (fun j _=>j<10) D.now r.1.now:=by
 have Q:=h.rest;have e:=h.cap;have N:∀t∈EJ ((g+1:Y):H) (Cf ms),Ajb t=512:=Te _;have W:=NU _ ((g+1)%2*5) N;obtain⟨f1,x,f3,_⟩:=b.Ahf Q (Qw N (by rw[IC];omega)) h0;have o:r.1.cap=D.cap:=b.cap;obtain⟨u,w⟩:=b.up Q W 4096;obtain⟨a,d,p,y,a3,a4⟩:=h.made;obtain⟨K,I⟩:=h.ok;have S:Upn 4096 (fun j _=>j<10) D.now r.1.now:=u.imp fun j t q=>by have:=Ro q;show j<10;omega
 have hh:=p.has;have E:Slot r.1.now r.1.cap g a:=⟨X,fun i v=>(u.keep X X fun t q=>by have:=Ro q;omega).2.trans (p.sec i v),p.gen,by rw[o];exact p.chk,p.sums⟩;have C:Clean r.1.now g d nx:=y.up u Bc fun j h1 _ t q=>by have:=Ro q;omega
 have T:Xa r.1.now g ms:=fun i v hj=>by
  rcases u.sec _ hj with q|⟨_,q⟩|q
  .exact .inl (by rw[q.2];exact h.oth i v q.1)
  .exact .inl (by rw[q];exact UX g)
  .refine .inr ?_;have:=((JP _ _ _ _).1 q).2.2;rw[show(1-g%2)*5+i-(g+1)%2*5=i by omega,Ck,aI _ _ v]at this;exact this.symm
 have f:TW r.1.now (g+1):=C.Ahc p.gen;have V:∀i,i<=Ajb d->OkC (DJ a (d.take i)) (Ef r.1).cap/\FR (DJ a (d.take i)):=fun i v=>by rw[show(Ef r.1).cap=D.cap from o];exact a4 i v
 have L:∃a d nx,Slot r.1.now r.1.cap g a/\Wal.replay r.1.now g=(d,nx)/\Om d/\Dw d<=20/\ms=DJ a d/\∀i,i<=Ajb d->OkC (DJ a (d.take i)) (Ef r.1).cap/\FR (DJ a (d.take i)):=
  ⟨a,d,nx,E,C.replay p.gen,y.good,by rw[y.tot];exact y.le,a3,V⟩
 refine⟨f1,x,f3,?_,S⟩;rcases yK (D:=Ef r.1) T A (by rw[show(Ef r.1).cap=D.cap from o];exact K) I with q|q|⟨_,q2⟩
 .exact⟨g,Nf g,x.up,by rw[show(Ef r.1).cap=D.cap from o];exact e,L,.inl q,f⟩
 .exact⟨g,Nf g,x.up,by rw[show(Ef r.1).cap=D.cap from o];exact e,L,.inr q,f⟩
 .have B:Clean r.1.now (g+1) [] 0:=⟨fun l w=>(by cases w),Z,Bc,.inl Z,fun k hk=>absurd hk (WU k),fun k _ h2 h3=>f k h2 h3⟩;refine⟨g+1,Bv _,x.up,by rw[show(Ef r.1).cap=D.cap from o];exact e,⟨ms,[],0,q2,B.replay A,fun l w=>(by cases w),Bc,Z,fun i _=>by rw[List.take_nil,show(Ef r.1).cap=D.cap from o];exact⟨K,I⟩⟩,.inr ⟨((g:H),a),?_,?_⟩,B.Ahc A⟩
  .have:=Slot.Ahi (D:=Ef r.1) E;rwa[show g%2=1-(g+1)%2 by omega]at this
  .show(g:H)<((g+1:Y):H);omega
def zR{rd:Y->BN}{l:Ae Nt}{f i:Y}{out:Ae (Ae Nt)}{b:Y}(E:g<=4611686018427387904)(hl:Wal.Good l)(x:l≠[])(hf:Ajb l+1<=f)(N:i<=m)(L:i+Ajb l+1<=20)(y:m<=20)
 (I:∀k,k<Ajb l+1->i+k<m->rd (i+k)=(txs g i l).getD k []∨Il g (rd (i+k))):
 (i+Ajb l+1<=m/\CK (g:H) rd m f i [] out b=CK (g:H) rd m (f-(Ajb l+1)) (i+Ajb l+1) [] (out++[l]) (i+Ajb l+1))∨CK (g:H) rd m f i [] out b=(out,b):=by
 by_cases h:∀k,k<Ajb l+1->i+k<m/\rd (i+k)=(txs g i l).getD k []
 .left;have C:i+Ajb l+1<=m:=(h (Ajb l) (Qh _)).1;refine⟨C,?_⟩;have:=mc (f:=f-(Ajb l+1)) (i:=i) (out:=out) (b:=b) E hl x (fun k o=>(h k o).2) C y;rw[show f-(Ajb l+1)+(Ajb l+1)=f by omega]at this;exact this
 .right
  have Q:∃k,k<Ajb l+1/\¬(i+k<m/\rd (i+k)=(txs g i l).getD k [])/\∀j,j<k->i+j<m/\rd (i+j)=(txs g i l).getD j []:=by
   have S:∃k,k<Ajb l+1/\¬(i+k<m/\rd (i+k)=(txs g i l).getD k []):=IG fun q=>h fun k o=>IG fun w=>q ⟨k,o,w⟩;obtain⟨k,o,d⟩:=S
   induction k using RX with
   |ind k ih=>
    by_cases q:∀j,j<k->i+j<m/\rd (i+j)=(txs g i l).getD j []
    .exact⟨k,o,d,q⟩
    .obtain⟨j,p,B⟩:∃j,j<k/\¬(i+j<m/\rd (i+j)=(txs g i l).getD j []):=IG fun G=>q fun j p=>IG fun w=>G ⟨j,p,w⟩;exact ih j p X B
  obtain⟨k,o,d,t⟩:=Q;have a:Ajb (l.take k)=k:=by rw[BZ];omega
  have A:i+k<=m:=by
   rcases Jy k with e|e
   .omega
   .have:=(t (k-1) X).1;omega
  have r:=av (gen:=g) (rd:=rd) (m:=m) (l.take k) (f-k) i [] out b (fun n K=>hl n (Kl K)) (fun j p=>by
   rw[a]at p;have v:j<Ajb l:=X;rw[(t j p).2,bD g i l v];have:=Vw E l i hl X j v;rwa[List.getElem_take]) (by rw[a];exact A)
  rw[a,show f-k+k=f by omega]at r;rw[r];by_cases q:i+k<m
  .exact aw (((I k o q).resolve_left fun z=>d ⟨q,z⟩).stop)
  .exact au X
def zP{s:BN}{d:Ae (Ae Nt)}(n:g<=4611686018427387904)(good:Om d)(a:Dw d=nx)(le:nx<=20)(has:nx=0∨(10+nx)*512<=Ajb s)(sec:∀k,k<nx->BT s (10+k)=(DB g 0 d).getD k []):
 Wal.replay s g=CK g (fun i=>Wal.sec s (10+i)) (Ek s) (21-nx) nx [] d nx/\(nx<=Ek s∨nx=0)/\Ek s<=20:=by
 have f:Ek s<=20:=Nat.min_le_left _ _
 have j:nx<=Ek s∨nx=0:=by
  unfold Ek;rcases has with q|q
  .exact .inr q
  .exact .inl X
 refine⟨?_,j,f⟩;unfold Wal.replay;have h:=ar (gen:=g) (rd:=fun i=>Wal.sec s (10+i)) (m:=Ek s) n f d (21-nx) 0 [] 0 good (fun k l=>by rw[Fb];exact sec k (by rw[<-a];exact l)) (by rw[a,Fb];omega);rw[a,show 21-nx+nx=21 by omega,Fb,EP]at h;refine h.trans ?_;by_cases e:d=[]
 .subst e;rw[Ai Z,<-a];rfl
 .rw[Ag e]
def uz{a:Ae M}{d:Ae (Ae Nt)}{ns:Ae Nt}{cap:H}(h:∀i,i<=Ajb d->OkC (DJ a (d.take i)) cap/\FR (DJ a (d.take i)))(h1:OkC (DJ a (d++[ns])) cap)(f:FR (DJ a (d++[ns]))):
 ∀i,i<=Ajb (d++[ns])->OkC (DJ a ((d++[ns]).take i)) cap/\FR (DJ a ((d++[ns]).take i)):=fun i e=>by
 rw[BA,Dd]at e;by_cases q:i<=Ajb d
 .rw[TU q];exact h i q
 .rw[Dq (by rw[BA,Dd];omega)];exact⟨h1,f⟩
def Arc.Aih{ns:Ae Nt}(h:Arc D g nx ms)(E:ns≠[])(d:Wal.Good ns)(Q:nx+Ajb ns+1<=20)(af:OkC (Dl ms ns) D.cap)(L:FR (Dl ms ns)){n:Y}{r:Dv×Y}(b:Sy D (chs (10+nx) (txs g nx ns)) n r)(h0:r.2≠0):
 r.2=190/\Gone r.1/\D.at_≠0/\(Can (Ef r.1) g ms∨Can (Ef r.1) g (Dl ms ns))/\Upn 4096 (fun j _=>j<30) D.now r.1.now:=by
 have hR:=h.rest;have S:=h.cap;have hm:∀n∈ns,CJ n:=fun n hn=>(d n hn).1;have hT:∀t∈txs g nx ns,Ajb t=512:=VW hm;have hw:=NU _ (10+nx) hT;obtain⟨f1,f2,f3,_⟩:=b.Ahf hR (Qw hT (by rw[IE];omega)) h0;have hc:(Ef r.1).cap=D.cap:=b.cap;obtain⟨u,N⟩:=b.up hR hw 4096;obtain⟨p,K,V,w,a3,a4⟩:=h.made;have ug:Upn 4096 (fun j _=>j<30) D.now r.1.now:=u.imp fun j t q=>by have:=Ru q;show j<30;omega
 have W:∀j,j<10+nx->∀t,¬CZ (chs (10+nx) (txs g nx ns)) j t:=fun j hj t q=>by have:=Ru q;omega
 have s1:Slot (Ef r.1).now (Ef r.1).cap g p:=by rw[hc];exact V.up u Bc fun j hj=>W j X
 have so:=lw (D:=Ef r.1) (h.oth.up u fun j hj t q=>absurd q (W j X t));have A:=w.tot;have h9:=w.has;have fr:=zP (s:=r.1.now) V.gen w.good A w.le (h9.imp id fun q=>BC q N) fun k hk=>(u.keep (by rcases h9 with z|z<;>omega) X (W _ X)).2.trans (w.sec k hk);obtain⟨T,ao,al⟩:=fr
 have v:∀k,nx<=k->k<20->10+k<Ajb r.1.now/512->(k<nx+(Ajb ns+1)/\BT r.1.now (10+k)=(txs g nx ns).getD (k-nx) [])∨Il g (BT r.1.now (10+k)):=fun k h1 h2 x=>by
  rcases u.sec _ x with q|⟨_,q⟩|q
  .exact .inr (by rw[q.2];exact w.low k h1 h2 q.1)
  .exact .inr (by rw[q];exact UX g)
  .have I:=Ru q;have:=((JP _ _ _ _).1 q).2.2;rw[show 10+k-(10+nx)=k-nx by omega]at this;exact .inl ⟨X,this.symm⟩
 have G:∀k,k<Ajb ns+1->(Ct ((txs g nx ns).getD k [])).1.gen=(g:H):=fun k hk=>by
  have:=Ze (g:=g) [ns] nx (by simp[Dw];omega) V.gen (fun l N=>by rw[CF.1 N];exact⟨d,E⟩) k (by simp[Dw];omega);rwa[show DB g nx [ns]=txs g nx ns from List.append_nil _]at this
 have ai:TW r.1.now (g+1):=fun k h2 x=>by
  by_cases q:k<nx
  .exact u.low (fun z=>w.Ahc V.gen k h2 z) (W _ X) x
  .rcases v k X h2 x with⟨q1,I⟩|q
   .refine .inr ?_;rw[I,G _ X];omega
   .exact q.mono (Nf g)
 have can:∀(a:Ae (Ae Nt)) (B:Y),Wal.replay (Ef r.1).now g=(a,B)->Om a->Dw a<=20->(∀i,i<=Ajb a->OkC (DJ p (a.take i)) D.cap/\FR (DJ p (a.take i)))->Can (Ef r.1) g (DJ p a):=fun a B q1 I q3 q4=>
  ⟨f2.up,by rw[hc];exact S,⟨p,a,B,s1,q1,I,q3,Z,by rw[hc];exact q4⟩,so,ai⟩
 refine⟨f1,f2,f3,?_,ug⟩
 have ab:Wal.replay (Ef r.1).now g=(K,nx)->Can (Ef r.1) g ms:=fun q=>by
  rw[a3];exact can K nx q w.good (by rw[A];exact w.le) a4
 have a0:=w.le;by_cases C:nx<=Ek r.1.now
 .rcases zR (g:=g) (m:=Ek r.1.now) (rd:=fun i=>Wal.sec r.1.now (10+i)) (l:=ns) (f:=21-nx) (i:=nx) (out:=K) (b:=nx) V.gen d E X C Q al (fun k hk aj=>by
   have x:10+(nx+k)<Ajb r.1.now/512:=by unfold Ek at aj;omega
   rcases v (nx+k) X X x with q|q
   .refine .inl ?_;have:=q.2;rwa[show nx+k-nx=k by omega]at this
   .exact .inr q)with⟨q1,I⟩|q
  .right;have o:Dl ms ns=DJ p (K++[ns]):=by rw[YB,<-a3]
   rw[o];refine can (K++[ns]) (nx+Ajb ns+1) ?_ ?_ ?_ (uz a4 (by rw[<-o];exact af) (by rw[<-o];exact L))
   .refine T.trans (I.trans ?_);by_cases z:nx+Ajb ns+1<Ek r.1.now
    .have x:10+(nx+Ajb ns+1)<Ajb r.1.now/512:=by unfold Ek at z;omega
     rcases v (nx+Ajb ns+1) X X x with y|y
     .omega
     .exact aw y.stop
    .exact au X
   .intro l N;rcases Dx.1 N with q|q
    .exact w.good l q
    .rw[CF]at q;rw[q];exact⟨d,E⟩
   .have:Dw (K++[ns])=nx+Ajb ns+1:=by rw[<-A];simp[Dw];omega
    omega
  .exact .inl (ab (T.trans q))
 .have e:nx=0:=ao.resolve_left C;exact AI (by omega:nx<=Ek r.1.now) C
end
end
end Go.Proofs.YtkmlafmjaeeanaaGreatDoor
