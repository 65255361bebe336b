/- TopSlots, part E: functions of the log, of space and of the archive. -/
import Derived.Test.YtkmlafmjaeeanaaGreatDoorMrjD
set_option linter.all false
set_option maxHeartbeats 2000000
set_option maxRecDepth 20000
open Go Go.RowKit Go.Proofs.Tryz
open _root_ renaming rfl→Z,Nat→Y,Int→H,List→Ae,if_neg→Ag,if_pos→Ai,Array→Ap,congrArg→Ar,Option→Av,Bool→Aw,trivial→AB,UInt8→AH,String→AJ,absurd→AK,decide_eq_true→AM,decide_eq_false→AN,of_decide_eq_true→AO,dif_pos→AQ,of_decide_eq_false→AR
open _root_.And renaming intro→HZ
open _root_.Array renaming replicate→JW
open _root_.Bool renaming true→Af,false→Aj
open _root_.Go renaming World→Ad,Value→Ah,TypeId→Ay,Addr→AC,Operand→AD,Program→AE,Act→AF,Oper→AG,IntKind→AI,Code→AL,Exit→AP
open _root_.List renaming range→BE,replicate→BG,length→DW,zipWith→HJ,toArray→Lg,Sublist→TF,length→Aim
open _root_.Nat renaming blt→BL,beq→Jw,reducePow→Lh
open _root_.Option renaming some→Ns,some→X,none→Aa
open _root_.Prod renaming snd→RZ
open _root_.UInt8 renaming ofNat→BS
namespace Go.Proofs.YtkmlafmjaeeanaaGreatDoor
section
open Cat
def Lt:H->Ae Xt->H
 |a,[]=>a
 |_,x::r=>Lt (x.1+x.2) r
def FI:H->Ae Xt->Ae Xt
 |_,[]=>[]
 |a,x::r=>(if a<x.1 then[(a,x.1-a)]else[])++FI (x.1+x.2) r
def XZ(x:Xt):∀(l:Ae Xt) (a:H),Lt a (l++[x])=x.1+x.2
 |[],_=>rfl
 |_::l,_=>XZ x l _
def gX(x:Xt):∀(l:Ae Xt) (a:H),FI a (l++[x])=FI a l++(if Lt a l<x.1 then[(Lt a l,x.1-Lt a l)]else[])
 |[],a=>List.append_nil _
 |y::l,a=>by
  show _++FI _ (l++[x])=(_++FI _ l)++_;rw[gX x l,Cq];rfl
def UM:∀(l:Ae Xt) (a:H),Aim (FI a l)<=Aim l
 |[],_=>Bq _
 |x::l,a=>by
  have:=UM l (x.1+x.2);unfold FI;grind
structure RowX(a C:H)(l:Ae Xt):Prop where
 low:∀x∈l,a<=x.1
 high:∀x∈l,x.1+x.2<=C
 one:∀x∈l,1<=x.2
 chain:l.Pairwise fun x y=>x.1+x.2<=y.1
def RowX.tail{a C:H}{x:Xt}{l:Ae Xt}(h:RowX a C (x::l)):RowX (x.1+x.2) C l:=
 ⟨fun y hy=>(Hn.1 h.chain).1 y hy,fun y hy=>h.high y (El _ hy),fun y hy=>h.one y (El _ hy),(Hn.1 h.chain).2⟩
def Jr(a C n:H)(l:Ae Xt)(s:H):Prop:=a<=s/\s+n<=C/\∀x∈l,apart x (s,n)
def gC{C n:H}(i:1<=n):∀(l:Ae Xt) (a:H),a<=C->RowX a C l->(∀g,(FI a (l++[(C,0)])).find? (fun g=>decide (n<=g.2))=X g->Jr a C n l g.1/\∀s,Jr a C n l s->g.1<=s)/\
 ((FI a (l++[(C,0)])).find? (fun g=>decide (n<=g.2))=Aa->∀s,¬Jr a C n l s)
 |[],a,ha,h=>by
  have e:FI a ([]++[(C,0)])=if a<C then[(a,C-a)]else[]:=List.append_nil _;rw[e];split
  .rename_i q;rw[List.find?_cons];split
   .rename_i q2;rw[decide_eq_true_eq]at q2;have q2:n<=C-a:=q2
    exact⟨fun g hg=>by
     injection hg with hg;subst hg;exact⟨⟨PX _,by show a+n<=C;omega,fun x hx=>by grind⟩,fun s hs=>hs.1⟩,fun h=>by cases h⟩
   .rename_i q2;have q2:¬n<=C-a:=AR q2;exact⟨(fun g hg=>by cases hg),fun _ s hs=>by have:=hs.1;have:=hs.2.1;omega⟩
  .rename_i q;exact⟨(fun g hg=>by cases hg),fun _ s hs=>by have:=hs.1;have:=hs.2.1;omega⟩
 |x::l,a,ha,h=>by
  have h1:=h.low x (Fa ..);have h2:=h.high x (Fa ..);have h3:=h.one x (Fa ..);have ht:=h.tail;obtain⟨i1,i2⟩:=gC i l (x.1+x.2) h2 ht
  have up:∀s,Jr (x.1+x.2) C n l s->Jr a C n (x::l) s:=fun s hs=>⟨by have:=hs.1;omega,hs.2.1,fun y d=>by
   rcases List.mem_cons.1 d with rfl|d
   .exact .inl hs.1
   .exact hs.2.2 y d⟩
  have f:∀s,Jr a C n (x::l) s->(¬n<=x.1-a)->Jr (x.1+x.2) C n l s:=fun s hs j=>⟨by
   rcases hs.2.2 x (Fa ..)with q|q
   .omega
   .have q:s+n<=x.1:=q;have:=hs.1;omega,hs.2.1,fun y d=>hs.2.2 y (El _ d)⟩
  have e:FI a (x::l++[(C,0)])=(if a<x.1 then[(a,x.1-a)]else[])++FI (x.1+x.2) (l++[(C,0)]):=rfl;rw[e];split
  .rename_i q;rw[RT,List.find?_cons];split
   .rename_i q2;have q2:n<=x.1-a:=AO q2
    exact⟨fun g hg=>by
     injection hg with hg;subst hg;refine⟨⟨PX _,by show a+n<=C;omega,fun y d=>.inr ?_⟩,fun s hs=>hs.1⟩;show a+n<=y.1;rcases List.mem_cons.1 d with rfl|d
     .omega
     .have:=(Hn.1 h.chain).1 y d;omega,fun h=>by cases h⟩
   .grind
  .grind
def IH(l:Ae Xt)(cap n s:H):Prop:=Jr 30 (max cap 30) n l s/\∀s',Jr 30 (max cap 30) n l s'->s<=s'
def IH.ok{l:Ae Xt}{cap n s:H}(e:1<=n)(h:IH l cap n s)(a:OkX l cap):OkX (l++[(s,n)]) cap:=by
 obtain⟨⟨f,j,i⟩,_⟩:=h;refine⟨a.room,fun x d=>?_,Mb.2 ⟨a.far,List.pairwise_singleton ..,fun x d y g=>?_⟩⟩
 .rcases Dz.1 d with q|q
  .exact a.fit x q
  .rw[CG.1 q];have:=a.room;exact⟨f,e,J,J⟩
 .grind
def Jr.perm{a C n s:H}{l l':Ae Xt}(hp:l'.Perm l):Jr a C n l' s↔Jr a C n l s:=
 ⟨fun h=>⟨h.1,h.2.1,fun x hx=>h.2.2 x (hp.mem_iff.2 hx)⟩,fun h=>⟨h.1,h.2.1,fun x hx=>h.2.2 x (hp.mem_iff.1 hx)⟩⟩
def Aav{l:Ae Xt}{cap:H}(a:OkX l cap)(f:∀i j (hi:i<Aim l) (hj:j<Aim l),i<j->¬HM l[j] l[i]<0):RowX 30 (max cap 30) l:=by
 refine⟨fun x d=>(a.fit x d).1,fun x d=>by have:=a.fit x d;unfold Ht at this;omega,fun x d=>(a.fit x d).2.1,Ib.2 fun i j hi hj e=>?_⟩;have g:=f i j hi hj e;rw[Sg]at g;have k:=(a.fit l[i] (BM hi)).2.1;have h:=(a.fit l[j] (BM hj)).2.1;rcases Ib.1 a.far i j hi hj e with q|q
 .omega
 .omega
def JK(l:Ae Xt):H:=l.foldl (fun a x=>max a (x.1+x.2)) 30
def tR(l:Ae Xt)(x:Xt):JK (l++[x])=max (JK l) (x.1+x.2):=by unfold JK;simp
def Ya(l:Ae Xt):30<=JK l/\∀x∈l,x.1+x.2<=JK l:=by
 have h:∀(l:Ae Xt) (a:H),a<=l.foldl (fun a x=>max a (x.1+x.2)) a/\∀x∈l,x.1+x.2<=l.foldl (fun a x=>max a (x.1+x.2)) a:=fun l=>by
  induction l with
  |nil=>simp
  |cons y l ih=>
   intro a;obtain⟨e,d⟩:=ih (max a (y.1+y.2));grind
 exact h l 30
def gi{l:Ae Xt}{C:H}(d:30<=C)(h:∀x∈l,x.1+x.2<=C):JK l<=C:=by
 have h:∀(l:Ae Xt) (a:H),a<=C->(∀x∈l,x.1+x.2<=C)->l.foldl (fun a x=>max a (x.1+x.2)) a<=C:=fun l=>by
  induction l with
  |nil=>simp
  |cons y l ih=>
   grind
 exact h l 30 d ‹_›
end
section
attribute [local irreducible] OW KW QW EX GW NV
open Pth Rec Srt Cat
def Rp(l:Ae Xt)(cap:H):Je l cap=0↔OkX l cap:=by
 unfold Je;simp
def eG{C:H}:∀{l:Ae Xt} {a:H},30<=a->a<=C->RowX a C l->30<=Lt a l/\Lt a l<=C
 |[],a,h1,h2,h=>⟨h1,h2⟩
 |x::l,a,h1,h2,h=>by
  have h3:=h.low x (Fa ..);have h4:=h.high x (Fa ..);have h5:=h.one x (Fa ..);exact eG (l:=l) J h4 h.tail
def RowX.take{a C:H}{l:Ae Xt}(h:RowX a C l)(i:Y):RowX a C (l.take i):=
 ⟨fun x hx=>h.low x (HH hx),fun x hx=>h.high x (HH hx),fun x hx=>h.one x (HH hx),h.chain.sublist (List.take_sublist _ _)⟩
def Acl(l:Ae Xt)(hl:Aim l<=1000000)(cap:H)(A:Av AC)(c B:Y)(w:Ad)(hs:Sl w B A (Eg l)):
 Bn prog 89 [.slice A (Aim l) c,U cap] w fun v w'=>(∃(u:Ah) (e:Y),v=.tuple #[u,U (e:H)]/\(¬OkX l cap/\e=220∨OkX l cap/\e=0/\∃l':Ae Xt,l'.Perm l/\RowX 30 (max cap 30) l'/\Bp w' w.heap.size 121 2 u (Aim (FI 30 (l'++[(max cap 30,0)]))) (Eg (FI 30 (l'++[(max cap 30,0)])))))/\Bf w w':=by
 have al:Je l cap=0∨Je l cap=220:=by unfold Je;split<;>simp
 refine Bw func89 Z ntmps89 Be Z ?_;refine(O 10∘Zc (Tf l hl cap A c B w hs)) ?_;rintro _ w1⟨rfl,D⟩;refine(O 7)<|Zi (fun hc=>?_) fun hc=>?_
 .have ho:¬OkX l cap:=fun q=>hc (by rw[(Rp l cap).2 q]);rw[al.resolve_left (fun q=>hc (by rw[q]))];refine(O 6∘BH) ?_;grind
 .have ho:OkX l cap:=(Rp l cap).1 J;have bb:=ho.room;refine(O 13∘Zc (ni l hl A c B w1 (hs.ext D))) ?_;rintro v2 w2⟨⟨l',d,E,W⟩,T⟩;refine(O 1) ?_;refine OW.val Z Z (by first|exact EX.maxN (b:=30) Z Z|exact cA Z Z)<|(O 1) ?_;have t:=d.length_eq;have a:=Aav ((SP d).2 ho) E;have I:Bp w2 w1.heap.size 121 2 v2 (Aim l') (Eg l'):=by rw[t];exact W
  rw[<-t]at hl;obtain⟨L,hL⟩:∃L,L=l'++[(max cap 30,(0:H))]:=⟨_,Z⟩;have a9:Aim L=Aim l'+1:=by rw[hL,BA];rfl
  refine(Ko T I) ?_;rintro _ v3 N S C bi;have y:Bp N w1.heap.size 121 2 v3 (Aim L) (Eg L):=by(rw[a9,hL,PN];exact S)
  obtain⟨A3,c3,rfl,_,a1⟩:=y.slice;refine(O 4) ?_;have bh:=UM L 30;have a8:∀i,i<=Aim l'->L.take i=l'.take i:=fun i hi=>by grind
  have a7:∀i (h:i<Aim L),L[i].1<=max cap 30/\30<=L[i].1/\0<=L[i].2/\L[i].1+L[i].2<=max cap 30:=fun i h=>by
   by_cases q:i<Aim l'
   .have e:L[i]=l'[i]:=by simp only[hL];exact Wz q
    have m:=BM q;have h1:=a.low _ m;have h2:=a.high _ m;have h3:=a.one _ m;simp_all;omega
   .simp_all;omega
  have ai:∀i,i<=Aim L->30<=Lt 30 (L.take i)/\Lt 30 (L.take i)<=max cap 30:=fun i hi=>by
   by_cases q:i<=Aim l'
   .rw[a8 i q];exact eG (PX _) J (a.take i)
   .obtain rfl:i=Aim l'+1:=J;rw[DA J,hL,XZ];omega
  refine Lo (fun((i,at_,P,wr):Y×H×Ah×Ad)=>(i<=Aim L/\at_=Lt 30 (L.take i)/\Bp wr N.heap.size 121 2 P (Aim (FI 30 (L.take i))) (Eg (FI 30 (L.take i)))/\Bf N wr,[(7,P),(8,U (at_:H)),(23,.slice A3 (Aim L) c3),(24,U ((Aim L:Y):H)),(25,U i)],wr,Aim L-i)) (0,30,(.slice Aa 0 0),N) ?_ ?_
  .exact⟨BD _,Z,Bp.nil _ _ _ _,Bf.refl _⟩
  .rintro⟨i,at_,P,wr⟩⟨hi,aj,g,V⟩;have a5:=ai i hi;rw[<-aj]at a5;refine(O 5)<|Zi (fun j=>?_) fun j=>?_
   .obtain⟨b,o,rfl,_,n⟩:=(a1.ext V).flat (l:=L) (i:=i) (c:=2) (fun _=>rfl) Bc j;have G:L.take (i+1)=L.take i++[L[i]]:=(CR j).symm;have f:=gX L[i] (L.take i) 30;have af:=XZ L[i] (L.take i) 30;rw[<-G,<-aj]at f;rw[<-G]at af;have a0:=a7 i j;generalize L[i]=x at n G f af a0;have ab:=UM (L.take i) 30;rw[BY]at ab;refine(O 6∘Zv (Do (xcells x) n)∘Zn) ?_;rintro xb w4 ba a6 r;refine(Zs a6 (hlt:=Bq _)) ?_;rintro w5 p a2;refine(O 5) ?_;replace p:Bk w5 xb 121 (xcells x):=p;have x5:Bf wr w5:=Bv r a2 r.size (fun k hk=>by grind);refine(O 4) ?_;have z1:=T.size;have z3:=C.size;have z:=V.size;refine Lc (fun((vq,K):Ah×Ad)=>(Bp K N.heap.size 121 2 vq (Aim (FI 30 (L.take (i+1)))) (Eg (FI 30 (L.take (i+1))))/\Bf N K/\Bk K xb 121 (xcells x),[(7,vq),(10,.pointer (X ⟨xb,0,Aa⟩)),(23,.slice (X ⟨b,o,Aa⟩) (Aim L) c3),(24,U ((Aim L:Y):H)),(25,U i)],K)) ?_ ?_
    .refine Zi (fun a3=>?_) fun a3=>?_
     .rw[Ai (show at_<x.1 by omega)]at f;refine(O 8∘Ko (V.trans x5) (g.ext x5)) ?_;rintro _ v6 w6 Q ao a4;refine(O 2∘Lm (v6,w6)) ?_;refine⟨?_,ao,p.grown a4 fun e=>by have:=(g.lt _ e.symm).2;omega⟩;rw[f,BA,PN];exact Q
     .rw[Ag (show ¬at_<x.1 by omega),List.append_nil]at f;refine(O 1∘Lm (P,w5)) ?_;rw[f];exact⟨g.ext x5,V.trans x5,p⟩
    .rintro⟨vq,K⟩⟨bf,bc,bj⟩;refine(O 13)<|Lb ((i+1),(x.1+x.2),vq,K) ?_;grind
   .obtain rfl:i=Aim L:=J;rw[DA (Bq _)]at g;refine(O 7∘BH) ?_;refine⟨⟨P,0,Z,.inr ⟨ho,Z,l',d,a,by rw[<-hL];exact Bp.more g (by have:=D.size;have:=C.size;omega)⟩⟩,D.trans (C.trans V)⟩
def Ack(l:Ae Xt)(hl:Aim l<=1000000)(cap need:H)(A:Av AC)(c B:Y)(w:Ad)(hs:Sl w B A (Eg l)):
 Bn prog 59 [.slice A (Aim l) c,U cap,U need] w fun v w'=>(∃(s:H) (e:Y),v=.tuple #[U s,U (e:H)]/\(e=0/\OkX l cap/\1<=need/\IH l cap need s∨e=(if need<1 then 2 else 220)/\s=0/\(1<=need->OkX l cap->∀s',¬Jr 30 (max cap 30) need l s')))/\Bf w w':=by
 refine Bw func59 Z ntmps59 (by rfl) Z ?_;refine(O 11)<|Zi (fun h1=>?_) fun h1=>?_
 .refine(O 5∘BH) ?_;exact⟨⟨0,2,Z,.inr ⟨(Ai h1).symm,Z,fun h=>by omega⟩⟩,Bf.refl _⟩
 .refine(O 5∘Zc (Acl l hl cap A c B w hs)) ?_;rintro _ P⟨⟨u,e,rfl,W⟩,D⟩;refine(O 12)<|Zi (fun hc=>?_) fun hc=>?_
  .obtain⟨m,he⟩:¬OkX l cap/\e=220:=by
    grind
   refine(O 6∘BH) ?_;grind
  .obtain⟨ho,j,a,E,own⟩:OkX l cap/\∃j:Ae Xt,j.Perm l/\RowX 30 (max cap 30) j/\Bp P w.heap.size 121 2 u (Aim (FI 30 (j++[(max cap 30,0)]))) (Eg (FI 30 (j++[(max cap 30,0)]))):=by
    grind
   have I:=gC (C:=max cap 30) (n:=need) J j 30 J E
   have af:Aim (FI 30 (j++[(max cap 30,0)]))<=1000001:=by
    have:=UM (j++[(max cap 30,0)]) 30;rw[BA,a.length_eq,CJ]at this;omega
   generalize FI 30 (j++[(max cap 30,0)])=G at own I af;obtain⟨A1,c1,rfl,_,S⟩:=own.slice;obtain⟨f1,f2⟩:=I;refine(O 9)<|Lo (fun((i,wr):Y×Ad)=>(i<=Aim G/\(∀y∈G.take i,¬need<=y.2)/\Bf P wr,[(2,U need),(23,.slice A1 (Aim G) c1),(24,U ((Aim G:Y):H)),(25,U i)],wr,Aim G-i)) (0,P) ?_ ?_
   .exact⟨BD _,(fun y t=>by grind),Bf.refl _⟩
   .rintro⟨i,wr⟩⟨hi,m,L⟩;refine(O 5)<|Zi (fun d=>?_) fun d=>?_
    .obtain⟨b,o,rfl,_,f⟩:=(S.ext L).flat (l:=G) (i:=i) (c:=2) (fun _=>rfl) Bc d;have Q:G.take (i+1)=G.take i++[G[i]]:=(CR d).symm;have q:G=G.take i++G[i]::G.drop (i+1):=by rw[<-Ds d,Ho]
     generalize G[i]=x at f Q q;refine(O 6∘Zv (Do (xcells x) f)∘Zn) ?_;rintro xb w4 ai ab p;refine(Zs ab (hlt:=Bq _)) ?_;rintro N K T;refine(O 4) ?_;replace K:Bk N xb 121 (xcells x):=K;have x5:Bf wr N:=Bv p T p.size (fun k hk=>by grind);refine(O 4)<|Zi (fun hn=>?_) fun hn=>?_
     .have V:G.find? (fun g=>decide (need<=g.2))=X x:=by
       rw[q,List.find?_append,List.find?_eq_none.2 (fun y t=>by simpa using m y t),List.find?_cons_of_pos (by simpa using hn)];rfl
      obtain⟨g1,g2⟩:=f1 x V;refine(O 7∘BH) ?_;exact⟨⟨x.1,0,Z,.inl ⟨Z,ho,J,(Jr.perm a).1 g1,fun s' r=>g2 s' ((Jr.perm a).2 r)⟩⟩,(D.trans L).trans x5⟩
     .refine(O 6)<|Lb ((i+1),N) ?_;refine⟨d,fun y t=>?_,L.trans x5⟩;grind
    .refine(O 6∘BH) ?_;obtain rfl:i=Aim G:=J;rw[DA (Bq _)]at m;have V:G.find? (fun g=>decide (need<=g.2))=Aa:=List.find?_eq_none.2 fun y t=>by simpa using m y t
     exact⟨⟨0,220,Z,.inr ⟨(Ag h1).symm,Z,fun _ _ s' r=>f2 V s' ((Jr.perm a).2 r)⟩⟩,D.trans L⟩
def Acj(l:Ae Xt)(hl:Aim l<=1000000)(A:Av AC)(c B:Y)(w:Ad)(E:Sl w B A (Eg l)):
 Bn prog 69 [.slice A (Aim l) c] w fun v w'=>v=U (if OkX l 4096 then JK l else 30)/\Bf w w':=by
 refine Bw func69 Z ntmps69 (by rfl) Z ?_;refine(O 12∘Zc (Tf l hl 4096 A c B w E)) ?_;rintro _ D⟨rfl,g⟩;refine(O 2)<|Zi (fun K=>?_) fun K=>?_
 .have p:¬OkX l 4096:=fun q=>K (by rw[(Rp l 4096).2 q]);refine(O 5∘Bu) ?_;grind
 .have p:OkX l 4096:=(Rp l 4096).1 J;rw[Ai p];have Q:∀i,30<=JK (l.take i)/\JK (l.take i)<=4096:=fun i=>⟨(Ya _).1,gi Bc fun x h=>by have:=p.fit x (HH h);unfold Ht at this;omega⟩;have P:=KA (cells:=xcells) (k:=2) (fun _=>rfl) l;refine(O 9)<|Lo (fun((i,z,wr):Y×H×Ad)=>(i<=Aim l/\z=JK (l.take i)/\Bf D wr,[(3,U (z:H)),(10,.slice A (Aim l) c),(11,U ((Aim l:Y):H)),(12,U i)],wr,Aim l-i)) (0,30,D) ?_ ?_
  .exact⟨BD _,Z,Bf.refl _⟩
  .rintro⟨i,z,wr⟩⟨V,n,h⟩;have y:=Q i;rw[<-n]at y;refine(O 5)<|Zi (fun a=>?_) fun a=>?_
   .obtain⟨b,o,rfl,_,d⟩:=((E.ext g).ext h).flat (l:=l) (i:=i) (c:=2) (fun _=>rfl) Bc a;have j:l.take (i+1)=l.take i++[l[i]]:=(CR a).symm;have I:=p.fit _ (BM a);have f:=tR (l.take i) l[i];rw[<-j,<-n]at f;generalize l[i]=x at d j I f;unfold Ht at I;refine(O 6∘Zv (Do (xcells x) d)∘Zn) ?_;rintro L S G C e;refine(Zs C (hlt:=Bq _)) ?_;rintro r m t;refine(O 4) ?_;replace m:Bk r L 121 (xcells x):=m;have N:Bf wr r:=Bv e t e.size (fun k T=>by grind);refine(O 4) ?_;refine OW.val Z Z (by first|exact EX.maxN Z Z|exact cA Z Z)<|(O 7)<|Lb ((i+1),(max z (x.1+x.2)),r) ?_;exact⟨a,f.symm,h.trans N⟩
   .obtain rfl:i=Aim l:=J;rw[DA (Bq _)]at n;refine(O 6∘Bu) ?_;rw[n];exact⟨Z,g.trans h⟩
noncomputable def ER(l:Ae Xt)(cap n:H):H×Y:=open Classical in
 if h:1<=n/\OkX l cap/\∃s,IH l cap n s then(h.2.2.choose,0)else(0,if n<1 then 2 else 220)
def Yq{l:Ae Xt}{cap n:H}(h:(ER l cap n).2=0):1<=n/\OkX l cap/\IH l cap n (ER l cap n).1:=by
 unfold ER at h ⊢;split at h
 .grind
 .grind
def gE{l:Ae Xt}{cap n s t:H}(h1:IH l cap n s)(h2:IH l cap n t):s=t:=by
 have a:=h1.2 t h2.1;have b:=h2.2 s h1.1;omega
def gD(l:Ae Xt)(hl:Aim l<=1000000)(cap need:H)(A:Av AC)(c B:Y)(w:Ad)(d:Sl w B A (Eg l)):
 Bn prog 59 [.slice A (Aim l) c,U cap,U need] w fun v w'=>v=.tuple #[U (ER l cap need).1,U (((ER l cap need).2:Y):H)]/\Bf w w':=by
 refine(Ack l hl cap need A c B w d).mono fun v w'⟨⟨s,e,i,m⟩,h⟩=>⟨?_,h⟩;rcases m with⟨rfl,j,k,g⟩|⟨n,rfl,f⟩
 .have q:1<=need/\OkX l cap/\∃s,IH l cap need s:=⟨k,j,s,g⟩;have e:ER l cap need=(q.2.2.choose,0):=AQ q;rw[e,i,gE g q.2.2.choose_spec]
 .have q:¬(1<=need/\OkX l cap/\∃s,IH l cap need s):=fun⟨a,b,s,d⟩=>f a b s d.1;have o:ER l cap need=(0,if need<1 then 2 else 220):=dif_neg q;grind
end
namespace Cat
open Pth Rec Srt
def Iw(s:Bg)(i:Y):Bg:=(s.drop (486*i)).take 486
def ZU(s:Bg)(i:Y):Aim (Iw s i)<=486:=by unfold Iw;grind
def JS(gen:H)(s:Bg)(i:Y):Bg:=text 4 gen.toNat i (Iw s i)
def EK(gen:H)(s:Bg):Cl:=(BE 5).map (JS gen s)
def IA(gen:H)(s:Bg):Aim (EK gen s)=5:=by rfl
def mR(gen:H)(s:Bg){i:Y}(h:i<5):(EK gen s)[i]? =X (JS gen s i):=by simp[EK,h]
structure OkE(gen:H)(l:Ae M):Prop where
 low:0<=gen
 high:gen<=4611686018427387904
 chk:OkC l 4096
noncomputable def Ep(gen:H)(l:Ae M):Cl×Y:=open Classical in if OkE gen l then(EK gen (Ci l),0)else([],230)
def Sw{gen:H}{l:Ae M}(h:OkE gen l):Ep gen l=(EK gen (Ci l),0):=by unfold Ep;grind
def XX{gen:H}{l:Ae M}(h:¬OkE gen l):Ep gen l=([],230):=by unfold Ep;grind
def UE(gen:H)(l:Ae M):(OkE gen l/\Ep gen l=(EK gen (Ci l),0))∨Ep gen l=([],230):=by
 rcases Tu (OkE gen l)with h|h
 .exact .inl ⟨h,Sw h⟩
 .exact .inr (XX h)
def lh{gen:H}{l:Ae M}(h:OkE gen l):Aim (Ci l)<=2096:=by
 have a:=Xf l h.chk.may;have:=h.chk.len;omega
def fZ{gen:H}(h0:0<=gen)(h1:gen<=4611686018427387904)(s:Bg){i:Y}(hi:i<5):EH 4 gen i (Iw s i)=(JS gen s i,0):=by
 have a:¬Cn 4 gen i (Iw s i):=by
  unfold Cn;have:=ZU s i;omega
 unfold EH;rw[Ag a];rfl
def XQ{gen:H}(h0:0<=gen)(h1:gen<=4611686018427387904)(s:Bg){i:Y}(hi:i<5):CB (JS gen s i)=(⟨4,gen,i,Iw s i⟩,0):=NB Bl (fZ h0 h1 s hi)
def Eo(ss:Cl):Bg:=ss.flatMap fun s=>(CB s).1.data
def sQ(ss:Cl)(s:Bg):Eo (ss++[s])=Eo ss++(CB s).1.data:=by simp[Eo]
def Es(ss:Cl):H:=(CB (ss.getD 0 [])).1.gen
def Gn(ss:Cl):Ae M×Y:=Ex (Aim (Eo ss)+1) (Eo ss) []
structure OkD(ss:Cl):Prop where
 mem:(Gn ss).2=0
 enc:Ep (Es ss) (Gn ss).1=(ss,0)
noncomputable def CL(ss:Cl):H×Ae M×Y:=open Classical in if OkD ss then(Es ss,(Gn ss).1,0)else(0,[],230)
def Su{ss:Cl}(h:OkD ss):CL ss=(Es ss,(Gn ss).1,0):=by unfold CL;grind
def UA{ss:Cl}(h:¬OkD ss):CL ss=(0,[],230):=by unfold CL;grind
def Sx{gen:H}{l:Ae M}{ss:Cl}(h:Ep gen l=(ss,0)):OkE gen l/\ss=EK gen (Ci l):=by
 rcases UE gen l with⟨d,a⟩|a
 .grind
 .grind
def UF{gen:H}{l:Ae M}{ss:Cl}(h:Ep gen l=(ss,0)){i:Y}(hi:i<Aim ss):Aim ss=5/\CB ss[i]=(⟨4,gen,i,Iw (Ci l) i⟩,0):=by
 obtain⟨d,rfl⟩:=Sx h;rw[IA]at hi;have a:=mR gen (Ci l) hi
 have e:(EK gen (Ci l))[i]'(by rw[IA];exact hi)=JS gen (Ci l) i:=by
  rw[BN (by rw[IA];exact hi)]at a;injection a
 exact⟨IA _ _,by rw[e];exact XQ d.low d.high _ hi⟩
def enc_len{gen:H}{l:Ae M}{ss:Cl}(h:Ep gen l=(ss,0)):Aim ss=5:=by
 obtain⟨_,rfl⟩:=Sx h;rfl
def tP{gen:H}{l:Ae M}{ss:Cl}(h:Ep gen l=(ss,0)):Es ss=gen:=by
 have d:=enc_len h;have a:0<Aim ss:=J;have:=(UF h a).2;unfold Es;grind
def lD(s:Bg):∀n,(BE n).flatMap (Iw s)=s.take (486*n)
 |0=>by simp
 |n+1=>by
  rw[FV,Ia,lD s n];simp only[EY,RQ,List.append_nil];unfold Iw;grind
def sP{gen:H}{l:Ae M}{ss:Cl}(h:Ep gen l=(ss,0)):Eo ss=Ci l:=by
 obtain⟨a,rfl⟩:=Sx h;have d:=lh a
 have e:Eo (EK gen (Ci l))=(BE 5).flatMap (Iw (Ci l)):=by
  unfold Eo EK;rw[List.flatMap_map];rw[IL,IL];congr 1;apply Ju;intro i f;rw[XQ a.low a.high _ (CQ.1 f)]
 rw[e,lD,DA J]
def sS{gen:H}{l:Ae M}{ss:Cl}(d:∀m∈l,m.sum<=4294967295)(h:Ep gen l=(ss,0)):CL ss=(gen,l,0):=by
 have g:=(Sx h).1
 have a:Gn ss=(l,0):=by
  unfold Gn;rw[sP h];have:=Zf l (Aim (Ci l)+1) [] (fun m a=>⟨g.chk.may m a,d m a⟩) (OC _);simpa using this
 have e:=tP h;have f:OkD ss:=⟨Bh,Bh⟩;rw[Su f,a,e]
def lf{ss:Cl}(h:OkD ss){i:Y}(hi:i<Aim ss):Aim ss=5/\(CB ss[i]).2=0/\(CB ss[i]).1.kind=4/\(CB ss[i]).1.gen=Es ss/\(CB ss[i]).1.index=i:=by
 obtain⟨d,a⟩:=UF h.enc hi;grind
def yr{ss:Cl}(h:OkD ss):Aim ss=5:=enc_len h.enc
end Cat
section
attribute [local irreducible] OW KW QW EX GW NV
open Pth Rec Srt Cat
def xt(m:M):Et m≠[]:=fun e=>by
 have:=Ar DW e;rw[SI]at this;grind
def tN{gen:H}{l:Ae M}(h:gen<0∨4611686018427387904<gen∨Kr l 4096≠0):Ep gen l=([],230):=XX fun q=>by
 have h1:=q.low;have h2:=q.high;have h3:=Si q.chk;omega
def yt{gen:H}{l:Ae M}(h1:¬gen<0)(h2:¬4611686018427387904<gen)(a:Kr l 4096=0):OkE gen l:=by
 refine⟨J,J,MX fun q=>?_⟩;rw[ON q]at a;omega
def ME(gen:H)(s:Bg)(i:Y):Bm:=(BE 5).map fun j=>if j<i then Bj (JS gen s j)else Bj []
def ZM(gen:H)(s:Bg)(i:Y):Aim (ME gen s i)=5:=by rfl
def yF(gen:H)(s:Bg){i:Y}(hi:i<5):(ME gen s i).set i (Bj (JS gen s i))=ME gen s (i+1):=by
 apply GU;intro j;rw[Wy,ZM];by_cases a:j<5
 .by_cases e:i=j
  .subst e;rw[Ai Z,Ai hi];simp[ME,hi]
  .rw[Ag e];simp only[ME,DP,Nk a,FO];grind
 .rw[IM (by rw[ZM];omega)];by_cases e:i=j
  .omega
  .rw[Ag e,IM (by rw[ZM];omega)]
def yE(gen:H)(s:Bg):ME gen s 5=Dd (EK gen s):=by
 rfl
def ga(gen:H)(l:Ae M)(Q:∀m∈l,m.Ok)(hl:Aim l<=140737488355328)(A:Av AC)(c B:Y)(w:Ad)(hG:DR w)(hs:Sl w B A (DH l)):
 Bn prog 82 [U gen,.slice A (Aim l) c] w fun v w'=>(∃u,v=.tuple #[u,U (((Ep gen l).2:Y):H)]/\Bp w' w.heap.size 9 1 u (Aim (Ep gen l).1) (Dd (Ep gen l).1))/\Bf w w':=by
 have Cn:(gen<0∨4611686018427387904<gen∨Kr l 4096≠0)->∀w',Bf w w'->(∃u,(Value.tuple #[.slice Aa 0 0,U 230])=.tuple #[u,U (((Ep gen l).2:Y):H)]/\Bp w' w.heap.size 9 1 u (Aim (Ep gen l).1) (Dd (Ep gen l).1))/\Bf w w':=fun h w' g=>by
  rw[tN h];exact⟨⟨_,Z,Bp.nil _ _ _ _⟩,g⟩
 refine Bw func82 Z ntmps82 (by rfl) Z ?_;refine(O 11)<|Zd 17 (fun h1=>?_) fun h1=>?_
 .refine(O 15∘BH) ?_;exact Cn (.inl h1) w (Bf.refl _)
 .refine(O 4)<|Zd 21 (fun h2=>?_) fun h2=>?_
  .refine(O 11∘BH) ?_;exact Cn (.inr (.inl h2)) w (Bf.refl _)
  .refine(O 1∘Zc (Ur l Q hl 4096 A c B w hG hs)) ?_;rintro _ w1⟨rfl,L⟩;refine(O 3)<|Zi (fun h3=>?_) fun h3=>?_
   .refine(O 5∘BH) ?_;grind
   .have E:OkE gen l:=yt h1 h2 (Decidable.byContradiction fun q=>h3 J);have ai:=lh E;have x:=E.chk.may;have bc:=E.chk.len
    have j:∀i,Aim (Ci (l.take i))<=2096:=fun i=>by
     have h4:=Xf (l.take i) (fun m hm=>x m (HH hm));grind
    rw[Sw E];refine(O 3∘Zn) ?_;rintro G w2 a9 a6 al;refine(O 8) ?_;have af:=Bd.new (B:=w.heap.size) (by have:=L.size;omega) a6;have x2:=L.trans al;refine Lc (fun(wr:Ad)=>(Bd wr w.heap.size G (Ci l)/\Bf w wr,[(0,U gen),(6,.pointer (X ⟨G,0,Aa⟩))],wr)) ?_ ?_
    .refine(O 1)<|Lo (fun((i,wr):Y×Ad)=>(i<=Aim l/\Bd wr w.heap.size G (Ci (l.take i))/\Bf w wr,[(0,U gen),(6,.pointer (X ⟨G,0,Aa⟩)),(26,.slice A (Aim l) c),(27,U ((Aim l:Y):H)),(28,U i)],wr,Aim l-i)) (0,w2) ?_ ?_
     .exact⟨BD _,af,x2⟩
     .rintro⟨i,wr⟩⟨hi,p,g⟩;have ba:=j i;have ao:=j (i+1);refine(O 5)<|Zi (fun a=>?_) fun a=>?_
      .obtain⟨b,o,rfl,_,n⟩:=(hs.ext g).flat (i:=i) (c:=5) (fun _=>rfl) Bc a;have N:l.take (i+1)=l.take i++[l[i]]:=(CR a).symm;have S:=Q l[i] (BM a);have a1:=x l[i] (BM a);generalize l[i]=m at n N S a1;have V:Ci (l.take (i+1))=Ci (l.take i)++Et m:=by rw[N,qQ]
       rw[V,BA]at ao;refine(O 6∘Zv (Do m.cells n)∘Zn) ?_;rintro mb w3 a8 a5 K;refine(Zs a5 (hlt:=Bq _)) ?_;rintro D f a3;refine(O 3) ?_;replace f:Bk D mb 60 m.cells:=f;have x4:Bf wr D:=Bv K a3 K.size (fun k hk=>by simp at hk;omega);have cm:=kB m S D;rw[show NI m=(Et m,0) by unfold NI;grind]at cm;simp only at cm;refine(Zv (Cf f)∘Zc cm) ?_;rintro _ w5⟨rfl,d⟩;refine(O 8) ?_;have x5:=(g.trans x4).trans d;refine(Zc (oV w.heap.size G (Ci (l.take i)) (Et m) w5 ((p.ext x4).ext d) (xt m) J x5.size)) ?_;rintro _ w6⟨⟨q,rfl⟩,y,W⟩;refine(O 6) ?_;rw[<-V]at y;refine Lb ((i+1),w6) ?_;exact⟨J,y,Below.trans x5 W⟩
      .obtain rfl:i=Aim l:=J;rw[DY]at p;refine(O 1∘Lm wr) ?_;grind
    .rintro wr⟨p,g⟩;refine(O 2∘Zc (Xm w.heap.size G (Ci l) wr p J g.size)) ?_;rintro _ w3⟨rfl,ab⟩;refine(O 4) ?_;have x3:Bf w w3:=Below.trans g ab;generalize Ci l=s at ai;refine WT (len:=5) Z Z underlying97 Gs Z Z Z J J ?_;rintro I D a7 f aj;refine(O 8) ?_;have x4:=x3.trans aj;replace f:Bk D I 9 (ME gen s 0):=f;have a0:w.heap.size<=I:=by have:=x3.size;omega
     refine Lo (fun((i,wr):Y×Ad)=>(i<=5/\Bk wr I 9 (ME gen s i)/\Bf w wr,[(0,U gen),(11,Bj ((s.drop (486*i)))),(12,.slice (X ⟨I,0,Aa⟩) 5 5),(42,U i)],wr,5-i)) (0,D) ?_ ?_
     .grind
     .rintro⟨i,wr⟩⟨hi,C,g⟩;refine(O 5)<|Zi (fun a=>?_) fun a=>?_
      .have ce:=fun w=>UH 4 Bc gen i (Iw s i) (by have:=ZU s i;omega) w;rw[fZ E.low E.high s a]at ce;simp only at ce;have a4:Aim (s.drop (486*i))=Aim s-486*i:=CK
       have P:(s.drop (486*i)).take (min (Aim (s.drop (486*i))) 486)=Iw s i:=by
        unfold Iw;rcases TX (Aim (s.drop (486*i))) 486 with q|q
        .grind
        .grind
       have T:(s.drop (486*i)).drop (min (Aim (s.drop (486*i))) 486)=s.drop (486*(i+1)):=by
        rcases TX (Aim (s.drop (486*i))) 486 with q|q
        .simp;omega
        .simp;omega
       generalize hq:s.drop (486*i)=t at a4 P T;refine(O 23∘Zv (by exact Ka underlying9 Z Z J)) ?_;refine OW.as 55 (Bj ((Iw s i))) Z (Ar Bj P)<|(Zc (ce wr)) ?_;rintro _ w5⟨rfl,d⟩;refine(O 4∘Zt (C.ext d) (hlt:=by assumption)) ?_;rintro w6 r a2;refine(O 4∘Zv (by exact Nd underlying9 Z Z J)∘O 7) ?_;replace r:Bk w6 I 9 ((ME gen s i).set i (Bj (JS gen s i))):=r;rw[yF gen s a]at r;refine(Cw 11 (Bj ((s.drop (486*(i+1))))) (e:=by exact Ar Bj T))<|Lb ((i+1),w6) ?_;exact⟨J,r,Bv (g.trans d) a2 (g.trans d).size (fun k hk=>by simp at hk;omega)⟩
      .obtain rfl:i=5:=J;rw[yE]at C;refine(O 7∘BH) ?_;refine⟨⟨_,Z,?_⟩,g⟩;rw[IA];exact Bp.Agf (cap:=5) C a0 (by rfl) Bc
def xl(s:Bg):(IV s).sum<=4294967295:=UZ _ 4 (Bq _)
def ku:∀(f:Y) (s:Bg) (out:Ae M),(∀m∈out,Dq m/\m.sum<=4294967295)->∀m∈(Ex f s out).1,Dq m/\m.sum<=4294967295
 |0,s,out,h,m,hm=>h m hm
 |f+1,s,out,h,m,hm=>by
  rw[Ex]at hm;split at hm
  .grind
  .split at hm
   .cases hm
   .split at hm
    .rename_i hmay;refine ku f _ _ (fun x hx=>?_) m hm;rcases Dz.1 hx with hx|hx
     .grind
     .simp only[CG]at hx;subst hx;exact⟨hmay,xl s⟩
    .cases hm
def Zg:∀(f:Y) (s:Bg) (out:Ae M),Aim (Ex f s out).1<=Aim out+f
 |0,s,out=>by simp[Ex]
 |f+1,s,out=>by
  rw[Ex];split
  .simp
  .split
   .simp
   .split
    .have:=Zg f (s.drop (11+first s)) (out++[IV s]);grind
    .simp
def Yl{m:M}(h:Dq m/\m.sum<=4294967295):m.Ok:=⟨by have:=(JO h.1).1;omega,h.2⟩
def kD(ss:Cl):∀m∈(Gn ss).1,m.Ok:=fun m a=>Yl (ku _ _ [] Bl m a)
def fH(s:Bg):(CB s).1.data.length<=486:=by
 unfold CB;split
 .rename_i h;show Aim ((s.drop 19).take (nb ((s.drop 17).take 2)))<=486;grind
 .show Aim ([]:Bg)<=486;simp
def XL(ss:Cl):Aim (Eo ss)<=486*Aim ss:=by
 induction ss with
 |nil=>simp[Eo]
 |cons s ss ih=>
  have a:=fH s;have e:Eo (s::ss)=(CB s).1.data++Eo ss:=by simp[Eo]
  grind
def gG{l:Cl}(h:Aim l=5):∃s0 s1 s2 s3 s4,l=[s0,s1,s2,s3,s4]:=by
 match l,h with
 |[a,b,c,d,e],_=>simp
def VS{w:Ad}{B:Y}{A:Av AC}{l:Cl}(h:Sl w B A (Dd l)){i:Y}(hi:i<Aim l):∃b o,A=X ⟨b,o,Aa⟩/\b<B/\w.cell? ⟨b,o+i,Aa⟩=X (Bj l[i]):=by
 obtain⟨b,o,e,d,a⟩:=h.at_ (by rw[Aer];omega);exact⟨b,o,e,d,a i _ (Tp hi)⟩
def tu(ss:Cl)(hl:Aim ss<=140737488355328)(A:Av AC)(c B:Y)(w:Ad)(hG:DR w)(hs:Sl w B A (Dd ss)):
 Bn prog 75 [.slice A (Aim ss) c] w fun v w'=>(∃u,v=.tuple #[U (CL ss).1,u,U (((CL ss).2.2:Y):H)]/\Bp w' w.heap.size 60 5 u (Aim (CL ss).2.1) (DH (CL ss).2.1))/\Bf w w':=by
 have Cn:¬OkD ss->∀w',Bf w w'->(∃u,(Value.tuple #[U 0,.slice Aa 0 0,U 230])=.tuple #[U (CL ss).1,u,U (((CL ss).2.2:Y):H)]/\Bp w' w.heap.size 60 5 u (Aim (CL ss).2.1) (DH (CL ss).2.1))/\Bf w w':=fun h w' n=>by
  rw[UA h];exact⟨⟨_,Z,Bp.nil _ _ _ _⟩,n⟩
 refine Bw func75 Z ntmps75 Be Z ?_;refine(O 13)<|Zi (fun P=>?_) fun P=>?_
 .refine(O 6∘CS) ?_;exact Cn (fun h=>P (by have:=yr h;omega)) w (Bf.refl _)
 .have h5:Aim ss=5:=J;have a7:=XL ss;refine(O 14)<|Lo (fun((i,g,wr):Y×H×Ad)=>(i<=Aim ss/\(0<i->g=Es ss)/\Bf w wr,[(0,.slice A (Aim ss) c),(5,U g),(6,Bj ((Eo (ss.take i)))),(17,.slice A (Aim ss) c),(18,U ((Aim ss:Y):H)),(19,U i)],wr,Aim ss-i)) (0,0,w) ?_ ?_
  .exact⟨BD _,fun h=>by omega,Bf.refl _⟩
  .rintro⟨i,g,wr⟩⟨hi,hg,n⟩;refine(O 5)<|Zi (fun j=>?_) fun j=>?_
   .obtain⟨b,o,rfl,_,m⟩:=VS (hs.ext n) j;have G:ss.take (i+1)=ss.take i++[ss[i]]:=(CR j).symm;have D:=fun h:OkD ss=>lf h j;have T:i=0->Es ss=(CB ss[i]).1.gen:=fun h=>by subst h;unfold Es;grind
    generalize ss[i]=s at m G D T;have a1:=fH s;have a0:=XL (ss.take i);rw[BY]at a0;have cd:=fun w=>fO s w;have W:Eo (ss.take (i+1))=Eo (ss.take i)++(CB s).1.data:=by rw[G,sQ]
    generalize(CB s).1=x at cd D T a1 W;generalize(CB s).2=e at cd D;refine(O 7∘Zv (BZ m)∘O 6∘Zc (cd wr)) ?_;rintro _ w1⟨rfl,a⟩;refine(O 3∘Zn) ?_;rintro xb w2 a5 a4 d;refine(Zs a4 (hlt:=Bq _)) ?_;rintro E ab al;refine(O 8) ?_;replace ab:Bk E xb 144 x.cells:=ab;have x3:Bf wr E:=Bv (a.trans d) al (a.trans d).size (fun k hk=>by simp at hk;have:=a.size;omega);refine Lc (fun(g2:H)=>((g2=Es ss/\(0<i->g=g2)),[(0,.slice (X ⟨b,o,Aa⟩) (Aim ss) c),(5,U g2),(6,Bj ((Eo (ss.take i)))),(7,U i),(9,.pointer (X ⟨xb,0,Aa⟩)),(10,U e),(17,.slice (X ⟨b,o,Aa⟩) (Aim ss) c),(18,U ((Aim ss:Y):H)),(19,U i)],E)) ?_ ?_
    .refine Zi (fun h0=>?_) fun h0=>?_
     .refine(O 5∘Lm x.gen) ?_;omega
     .refine(O 1∘Lm g) ?_;omega
    .rintro g2⟨rfl,a6⟩;refine(O 2)<|Lc (fun(_u:Unit)=>(True,[(0,.slice (X ⟨b,o,Aa⟩) (Aim ss) c),(5,U (Es ss)),(6,Bj ((Eo (ss.take i)))),(9,.pointer (X ⟨xb,0,Aa⟩)),(17,.slice (X ⟨b,o,Aa⟩) (Aim ss) c),(18,U ((Aim ss:Y):H)),(19,U i),(51,.bool (decide ((e≠0∨x.kind≠4∨x.gen≠Es ss∨x.index≠i))))],E)) ?_ ?_
     .refine(O 4)<|Zd 35 (fun q1=>?_) fun q1=>?_
      .refine(O 17∘Cw 51 (.bool (decide ((e≠0∨x.kind≠4∨x.gen≠Es ss∨x.index≠i)))) (e:=by exact Ar Value.bool (AM (.inl q1)).symm)∘Lm ()) ?_;trivial
      .refine(O 5)<|Zd 40 (fun q2=>?_) fun q2=>?_
       .refine(O 12∘Cw 51 (.bool (decide ((e≠0∨x.kind≠4∨x.gen≠Es ss∨x.index≠i)))) (e:=by exact Ar Value.bool (AM (.inr (.inl q2))).symm)∘Lm ()) ?_;trivial
       .refine(O 6)<|Zd 46 (fun q3=>?_) fun q3=>?_
        .refine(O 6∘Cw 51 (.bool (decide ((e≠0∨x.kind≠4∨x.gen≠Es ss∨x.index≠i)))) (e:=by exact Ar Value.bool (AM (.inr (.inr (.inl q3)))).symm)∘Lm ()) ?_;trivial
        .refine(O 6∘Cw 51 (.bool (decide ((e≠0∨x.kind≠4∨x.gen≠Es ss∨x.index≠i)))) (e:=by exact Ar Value.bool (decide_eq_decide.2 ⟨fun h=>.inr (.inr (.inr h)),fun h=>h.elim (fun z=>absurd z q1) (fun h=>h.elim (fun z=>absurd z q2) (fun h=>h.elim (fun z=>absurd z q3) id))⟩))∘Lm ()) ?_;trivial
     .rintro _ _;refine Zi (fun hb=>?_) fun hb=>?_
      .refine(O 6∘CS) ?_;exact Cn (fun h=>by grind) E (n.trans x3)
      .refine(O 13∘Cw 6 (Bj ((Eo (ss.take (i+1))))) (e:=by exact Ar Bj W.symm))<|Lb ((i+1),(Es ss),E) ?_;exact⟨J,fun _=>rfl,n.trans x3⟩
   .obtain rfl:i=Aim ss:=J;obtain rfl:=hg J;have cm:=kC (Eo ss) J wr;have ai:=kD ss;have Q:=Zg (Aim (Eo ss)+1) (Eo ss) [];have aj:Ex (Aim (Eo ss)+1) (Eo ss) []=Gn ss:=rfl;rw[aj]at cm Q;simp only[EZ,FW]at Q;rw[DY];refine(O 4∘Zc cm) ?_;rintro _ w1⟨u,rfl,f,a⟩;refine(O 12) ?_;obtain⟨A1,c1,rfl,_,K⟩:=f.slice;refine Zi (fun S=>?_) fun S=>?_
    .refine(O 6∘CS) ?_;exact Cn (fun h=>S (by have:=h.mem;omega)) w1 (n.trans a)
    .have ce:=ga (Es ss) (Gn ss).1 ai J A1 c1 _ w1 ((hG.ext n).ext a) K;refine(O 5∘Zc ce) ?_;rintro _ w2⟨⟨u2,rfl,y⟩,d⟩;refine(O 12) ?_;have x2:=(n.trans a).trans d;obtain⟨A2,c2,rfl,_,r⟩:=y.slice;refine Zi (fun V=>?_) fun V=>?_
     .have t:(Ep (Es ss) (Gn ss).1).2=230:=by
       rcases UE (Es ss) (Gn ss).1 with⟨_,q⟩|q
       .grind
       .rw[q]
      refine(O 7) ?_;rw[t];refine(CS) ?_;exact Cn (fun h=>by rw[h.enc]at t;omega) w2 x2
     .have hE:Ep (Es ss) (Gn ss).1=((Ep (Es ss) (Gn ss).1).1,0):=by
       rcases UE (Es ss) (Gn ss).1 with⟨_,q⟩|q
       .rw[q]
       .grind
      have L:=enc_len hE;have p:(Ep (Es ss) (Gn ss).1).1=ss->OkD ss:=fun q=>⟨J,Bh⟩;have N:(Ep (Es ss) (Gn ss).1).1≠ss->¬OkD ss:=fun q h=>q (by rw[h.enc]);generalize(Ep (Es ss) (Gn ss).1).1=os at L p N r;generalize(Ep (Es ss) (Gn ss).1).2=oe at V;have I:=hs.ext x2;obtain⟨s0,s1,s2,s3,s4,rfl⟩:=gG h5;obtain⟨r0,r1,r2,r3,r4,rfl⟩:=gG L;obtain⟨b3,o3,rfl,_,a2⟩:=I.at_ (by simp[Dd]);obtain⟨b2,o2,rfl,_,a3⟩:=r.at_ (by simp[Dd]);have ao:=(f.ext d);refine(O 5∘Zq (by exact fun _=>EX.arrayAt underlying189 Z J)∘Zq (by exact fun _=>KT (w:=w2.drewN _) (l:=[Bj r0,Bj r1,Bj r2,Bj r3,Bj r4]) underlying189 Z aY Z Z a3)∘O 1∘Zq (by exact fun _=>EX.arrayAt underlying189 Z J)∘Zq (by exact fun _=>KT (w:=w2.drewN _) (l:=[Bj s0,Bj s1,Bj s2,Bj s3,Bj s4]) underlying189 Z aY Z Z a2)∘Zq (by exact fun _=>py underlying189 underlying9 Gs Be Z Z)∘QW.nil) fun nq=>Zi (fun C=>?_) fun C=>?_
      .refine(O 6∘CS) ?_;exact Cn (N C) _ (x2.trans (Bf.drewN _ _))
      .have af:=p (Decidable.of_not_not C);refine(O 9∘CS) ?_;rw[Su af];exact⟨⟨_,Z,(ao.drewN _).more n.size⟩,x2.trans (Bf.drewN _ _)⟩
end
namespace Wal
open Rec Pth Dsk
abbrev By:=Bg
structure Nt where
 kind:H
 mem:M
 deriving DecidableEq
def bare(p:By):M:=⟨p,0,0,0,0⟩
def IW(n:Nt):Av By:=
 if n.kind=1 then(if Dq n.mem then X (Et n.mem)else Aa)
 else if n.kind=2 then(if Cy n.mem.path=0/\n.mem=bare n.mem.path then X n.mem.path else Aa)
 else Aa
def Hg(n:Nt):By:=(IW n).getD []
def CH(n:Nt):Prop:=IW n≠Aa
instance(n:Nt):Decidable (CH n):=by unfold CH;infer_instance
def FY(gen:Y):Y->Ae Nt->Ae By
 |_,[]=>[]
 |i,n::l=>text n.kind.toNat gen i (Hg n)::FY gen (i+1) l
def txs(gen at_:Y)(l:Ae Nt):Ae By:=FY gen at_ l++[text 3 gen (at_+Aim l) [BS (Aim l)]]
def SX(gen:Y):∀(l:Ae Nt) (i:Y),Aim (FY gen i l)=Aim l
 |[],_=>rfl
 |n::l,i=>by simp[FY,SX gen l]
def ma(gen:Y)(n:Nt):∀(l:Ae Nt) (i:Y),FY gen i (l++[n])=FY gen i l++[text n.kind.toNat gen (i+Aim l) (Hg n)]
 |[],i=>rfl
 |m::l,i=>by
  rw[FM,FY,FY,ma gen n l,FM,Cv,show i+1+Aim l=i+(Aim l+1) by omega]
def writes:Dv->Y->Ae By->Dv×Y
 |D,_,[]=>(D,0)
 |D,i,s::l=>if(D.write i s).2=0 then writes (D.write i s).1 (i+1) l else D.write i s
def Ii(gen at_:H)(n:Y):Prop:=gen<0∨4611686018427387904<gen∨at_<0∨20<at_∨n=0∨20-at_<=n
instance(gen at_:H)(n:Y):Decidable (Ii gen at_ n):=by unfold Ii;infer_instance
def FC(D:Dv)(gen at_:H)(l:Ae Nt):Dv×H×Y:=
 if Ii gen at_ (Aim l)∨∃n∈l,¬CH n then(D,0,210)
 else
  let r:=writes D (10+at_.toNat) (txs gen.toNat at_.toNat l)
  if r.2=0 then(if r.1.sync.2=0 then(r.1.sync.1,at_+Aim l+1,0)else(r.1.sync.1,0,r.1.sync.2))else(r.1,0,r.2)
def FJ(x:R):Av Nt:=
 if x.kind=1 then(if(Ex (Aim x.data+1) x.data []).2=0/\Aim (Ex (Aim x.data+1) x.data []).1=1 then X ⟨1,(Ex (Aim x.data+1) x.data []).1.getD 0 (bare [])⟩else Aa)
 else if x.kind=2 then(if Cy x.data=0 then X ⟨2,bare x.data⟩else Aa)
 else Aa
def sec(s:By)(i:Y):By:=(s.drop (i*512)).take 512
def CZ(gen:H)(rd:Y->By)(m:Y):Y->Y->Ae Nt->Ae (Ae Nt)->Y->Ae (Ae Nt)×Y
 |0,_,_,out,b=>(out,b)
 |f+1,i,op,out,b=>
  if i<m then
   let x:=CB (rd i)
   if x.2≠0∨x.1.gen≠gen∨x.1.index≠i then(out,b)
   else if x.1.kind=3 then(if op=[]∨x.1.data≠[BS (Aim op)]then(out,b)else CZ gen rd m f (i+1) [] (out++[op]) (i+1))
   else match FJ x.1 with
    |some n=>CZ gen rd m f (i+1) (op++[n]) out b
    |none=>(out,b)
  else(out,b)
def Hf(s:By):Y:=min 20 (Aim s/512-10)
def replay(s:By)(gen:H):Ae (Ae Nt)×Y:=CZ gen (fun i=>sec s (10+i)) (Hf s) 21 0 [] [] 0
def JC(gen:H):Prop:=gen<0∨4611686018427387904<gen
instance(gen:H):Decidable (JC gen):=by unfold JC;infer_instance
def JP(D:Dv)(gen:H):(Ae (Ae Nt)×Y)×Y:=if JC gen then(([],0),210)else if D.dead then(([],0),190)else(replay D.now gen,0)
def rA{s t:By}{a b n:Y}(ht:Aim t=n)(j:a+n<=Aim s)(h:b+n<=a∨b=a∨a+n<=b):((s.take a++t++s.drop (a+n)).drop b).take n=if b=a then t else(s.drop b).take n:=by
 have i:Aim (s.take a)=a:=by rw[BY];omega
 rcases h with f|f|f
 .by_cases d:b=a
  .have:n=0:=J;subst this;rw[Ai d,Ox,Gx ht]
  .rw[Ag d,Cq,TH J,WK Bh,Wu,WL,Hq J]
 .grind
 .have g:Aim (s.take a++t)=a+n:=by rw[BA,i,ht]
  have e:(s.take a++t++s.drop (a+n)).drop b=s.drop b:=by
   rw[List.drop_append,KX J,Ev,Ge,g,show a+n+(b-(a+n))=b by omega]
  grind
def Abt{s t:By}{i j:Y}(h:(i+1)*512<=Aim s)(ht:Aim t=512):sec (s.take (i*512)++t++s.drop (i*512+512)) j=if j=i then t else sec s j:=by
 have e:=rA (s:=s) (a:=i*512) (b:=j*512) ht J J;unfold sec;grind
def Xi(i:Y)(t s:By):(Ch.write i t).ap s=(s++EN ((i+1)*512-Aim s)).take (i*512)++t++(s++EN ((i+1)*512-Aim s)).drop (i*512+Aim t):=rfl
def Abu{s t:By}{i j:Y}(hm:Aim s%512=0)(ht:Aim t=512)(d:j=i∨j<Aim s/512):sec ((Ch.write i t).ap s) j=if j=i then t else sec s j:=by
 have a:∀z:By,sec s j=sec (s++z) j∨¬j<Aim s/512:=fun z=>by
  by_cases h:j<Aim s/512
  .left;unfold sec;grind
  .omega
 have e:=Abt (s:=s++EN ((i+1)*512-Aim s)) (i:=i) (j:=j) (by rw[BA,PO];omega) ht;rw[Xi,ht,e];grind
def Pg{s t:By}{i:Y}(ht:Aim t=512)(hm:Aim s%512=0):Aim ((Ch.write i t).ap s)=max (Aim s) ((i+1)*512):=by
 rw[Xi];simp only[BA,BY,CK,PO,ht];omega
def Xv{s:By}(h1:Cy s=0):Aim s<=120:=by
 unfold Cy at h1;split at h1
 .rename_i e;unfold GF at e;grind
 .omega
def SK{n:Nt}(h:CH n):Aim (Hg n)<=131/\(n.kind=1∨n.kind=2):=by
 unfold CH at h;unfold Hg;unfold IW at h ⊢;by_cases d:n.kind=1
 .rw[Ai d]at h ⊢;by_cases a:Dq n.mem
  .rw[Ai a];have:=JO a;exact⟨by show Aim (Et n.mem)<=_;rw[SI];omega,.inl d⟩
  .rw[Ag a]at h;exact AK Z h
 .rw[Ag d]at h ⊢;by_cases a:n.kind=2
  .rw[Ai a]at h ⊢;by_cases e:Cy n.mem.path=0/\n.mem=bare n.mem.path
   .rw[Ai e];have:=Xv e.1;grind
   .grind
  .rw[Ag a]at h;exact AK Z h
def xZ{n:Nt}(h:CH n)(l:n.mem.sum<=4294967295)(g i:H):FJ ⟨n.kind.toNat,g,i,Hg n⟩=X n:=by
 unfold CH at h;unfold Hg;unfold IW at h ⊢;obtain⟨k,m⟩:=n;simp only at h l ⊢;by_cases j:k=1
 .subst j;rw[Ai Z]at h ⊢;by_cases a:Dq m
  .rw[Ai a];have e:=Zf [m] (Aim (Et m)+1) [] (fun x p=>by grind) (by simp[Ci]);have o:Ci [m]=Et m:=by simp[Ci]
   rw[o]at e
   have f:FJ ⟨1,g,i,Et m⟩=X ⟨1,m⟩:=by
    unfold FJ;simp only[if_true];rw[e];rfl
   exact f
  .rw[Ag a]at h;exact AK Z h
 .rw[Ag j]at h ⊢;by_cases a:k=2
  .subst a;rw[Ai Z]at h ⊢;by_cases d:Cy m.path=0/\m=bare m.path
   .rw[Ai d]
    have f:FJ ⟨2,g,i,m.path⟩=X ⟨2,m⟩:=by
     unfold FJ;simp only[if_true];rw[Ag Bl,Ai d.1,<-d.2]
    exact f
   .grind
  .rw[Ag a]at h;exact AK Z h
structure Rd(s:By)(k:Y)(g i:Y)(d:By):Prop where
 eq:CB s=(⟨k,g,i,d⟩,0)
def ac{k g i:Y}{d:By}(hk:1<=k/\k<=255)(f:g<=4611686018427387904)(hi:i<=2147483647)(h:Aim d<=486):Rd (text k g i d) k g i d:=by
 refine⟨?_⟩;have a:¬Cn k (g:H) (i:H) d:=by unfold Cn;omega
 have e:EH k (g:H) (i:H) d=(text k g i d,0):=by
  unfold EH;rw[Ag a];rfl
 exact NB hk.2 e
section
variable{gen:Y}{rd:Y->By}{m:Y}
def zK{f i:Y}{op:Ae Nt}{out:Ae (Ae Nt)}{b:Y}{n:Nt}(a:CH n)(d:n.mem.sum<=4294967295)(e:Rd (rd i) n.kind.toNat gen i (Hg n))(hi:i<m):
 CZ gen rd m (f+1) i op out b=CZ gen rd m f (i+1) (op++[n]) out b:=by
 have g:=(SK a).2;rw[CZ,Ai hi,e.eq];simp only;rw[Ag Bl,Ag J,xZ a d]
def zH{f i:Y}{op:Ae Nt}{out:Ae (Ae Nt)}{b:Y}(d:op≠[])(a:Rd (rd i) 3 gen i [BS (Aim op)])(hi:i<m):
 CZ gen rd m (f+1) i op out b=CZ gen rd m f (i+1) [] (out++[op]) (i+1):=by
 rw[CZ,Ai hi,a.eq];grind
def Good(l:Ae Nt):Prop:=∀n∈l,CH n/\n.mem.sum<=4294967295
def aa{g:Y}(hg:g<=4611686018427387904):∀(l:Ae Nt) (i:Y),Good l->i+Aim l<=2147483647->∀k (hk:k<Aim l),Rd ((FY g i l).getD k []) (l[k]).kind.toNat g (i+k) (Hg l[k])
 |[],i,_,_,k,hk=>by grind
 |n::l,i,hl,hi,0,hk=>by
  have h:=SK (hl n Bl).1;simp only[Cv]at hi;exact ac J hg J J
 |n::l,i,hl,hi,k+1,hk=>by
  have h:=aa hg l (i+1) (fun x hx=>hl x Bh) Bh k Bh;rw[show i+1+k=i+(k+1) by omega]at h;exact h
def me:∀(l:Ae Nt) (f i:Y) (op:Ae Nt) (out:Ae (Ae Nt)) (b:Y),Good l->(∀k (hk:k<Aim l),Rd (rd (i+k)) (l[k]).kind.toNat gen (i+k) (Hg l[k]))->i+Aim l<=m->
 CZ gen rd m (f+Aim l) i op out b=CZ gen rd m f (i+Aim l) (op++l) out b
 |[],f,i,op,out,b,_,_,_=>by simp
 |n::l,f,i,op,out,b,hl,hr,hm=>by
  simp only[Cv]at hm;have h0:Rd (rd i) n.kind.toNat gen i (Hg n):=hr 0 Bl
  have ih:=me l f (i+1) (op++[n]) out b (fun x hx=>hl x Bh) (fun k hk=>by
   have:=hr (k+1) Bh;grind) J
  rw[Cv,<-No,zK (hl n Bl).1 (hl n Bl).2 h0 J,ih,Cq,show i+1+Aim l=i+(Aim l+1) by omega];rfl
def Ji(g i:Y)(l:Ae Nt):Aim (txs g i l)=Aim l+1:=by simp[txs,SX]
def oD(g i:Y)(l:Ae Nt){k:Y}(h:k<Aim l):(txs g i l).getD k []=(FY g i l).getD k []:=by
 unfold txs;simp only[BX];rw[FA (by rw[SX];omega)]
def oC(g i:Y)(l:Ae Nt):(txs g i l).getD (Aim l) []=text 3 g (i+Aim l) [BS (Aim l)]:=by
 unfold txs;simp only[BX];rw[Hl (by rw[SX];simp),SX,EP];rfl
def zN{l:Ae Nt}{f i:Y}{out:Ae (Ae Nt)}{b:Y}(g:gen<=4611686018427387904)(hl:Good l)(a:l≠[])(d:∀k,k<Aim l+1->rd (i+k)=(txs gen i l).getD k [])(hm:i+Aim l+1<=m)(h:m<=20):
 CZ gen rd m (f+(Aim l+1)) i [] out b=CZ gen rd m f (i+Aim l+1) [] (out++[l]) (i+Aim l+1):=by
 rw[show f+(Aim l+1)=(f+1)+Aim l by omega,me l (f+1) i [] out b hl (fun k e=>by
  rw[d k J,oD gen i l e];exact aa g l i hl J k e) J,Ev]
 refine zH a ?_ J;rw[d (Aim l) J,oC];exact ac Bl g J Bl
def DO(g:Y):Y->Ae (Ae Nt)->Ae By
 |_,[]=>[]
 |i,l::ls=>txs g i l++DO g (i+Aim l+1) ls
def ED(ls:Ae (Ae Nt)):Y:=(ls.map (fun l=>Aim l+1)).sum
def PH(l:Ae Nt)(a:Ae (Ae Nt)):ED (l::a)=Aim l+1+ED a:=by rfl
def UR(g:Y):∀(ls:Ae (Ae Nt)) (i:Y),Aim (DO g i ls)=ED ls
 |[],_=>rfl
 |l::ls,i=>by rw[DO,BA,Ji,UR g ls,PH]
def jK(g:Y)(l:Ae Nt):∀(ls:Ae (Ae Nt)) (i:Y),DO g i (ls++[l])=DO g i ls++txs g (i+ED ls) l
 |[],i=>by simp[DO,ED]
 |x::ls,i=>by
  rw[FM,DO,DO,jK g l ls,PH,Cq,show i+Aim x+1+ED ls=i+(Aim x+1+ED ls) by omega]
def Wo(ls:Ae (Ae Nt)):Prop:=∀l∈ls,Good l/\l≠[]
def mc(d:gen<=4611686018427387904)(a:m<=20):∀(ls:Ae (Ae Nt)) (f i:Y) (out:Ae (Ae Nt)) (b:Y),Wo ls->(∀k,k<ED ls->rd (i+k)=(DO gen i ls).getD k [])->i+ED ls<=m->
 CZ gen rd m (f+ED ls) i [] out b=CZ gen rd m f (i+ED ls) [] (out++ls) (if ls=[]then b else i+ED ls)
 |[],f,i,out,b,_,_,_=>by simp[ED]
 |l::ls,f,i,out,b,hl,hr,hm=>by
  rw[PH]at hm hr;have h1:=hl l Bl
  have ih:=mc d a ls f (i+Aim l+1) (out++[l]) (i+Aim l+1) (fun x hx=>hl x Bh) (fun k hk=>by
   have:=hr (Aim l+1+k) J;rw[DO,BX,Hl (by rw[Ji];omega),Ji,show Aim l+1+k-(Aim l+1)=k by omega,show i+(Aim l+1+k)=i+Aim l+1+k by omega]at this;grind) J
  have e1:out++[l]++ls=out++l::ls:=Bl
  have e2:(if ls=[]then i+Aim l+1 else i+Aim l+1+ED ls)=i+(Aim l+1+ED ls):=by
   by_cases e:ls=[]
   .subst e;rfl
   .grind
  have g:i+Aim l+1+ED ls=i+(Aim l+1+ED ls):=J
  rw[PH,show f+(Aim l+1+ED ls)=(f+ED ls)+(Aim l+1) by omega,zN d h1.1 h1.2 (fun k hk=>by
   rw[hr k J,DO];simp only[BX];rw[FA (by rw[Ji];omega)]) J a,ih,e1,e2,g,Ag (List.cons_ne_nil _ _)]
end
end Wal
namespace Wal
open Rec Pth Dsk
structure Sm(D:Dv)(k:Y):Prop where
 calls:D.calls<=k
 pend:Aim D.pend<=k
 at_:D.at_<=9223372036854775807
 keep:Aim D.keep<=140737488355328
def Sm.small{D:Dv}{k:Y}(h:Sm D k)(hk:k<=1000000000):Small D:=⟨by have:=h.calls;omega,by have:=h.pend;omega,h.at_,h.keep⟩
def Sm.more{D:Dv}{k k':Y}(h:Sm D k)(hk:k<=k'):Sm D k':=⟨by have:=h.calls;omega,by have:=h.pend;omega,h.at_,h.keep⟩
def XU{D:Dv}{k:Y}(h:Sm D k)(c:Av Ch):Sm (D.Agi c).1 (k+1):=by
 obtain⟨g,f,e,d⟩:=h;by_cases a:(D.Agg c).at_=1
 .rw[UC a];refine⟨?_,Bl,Bl,Bl⟩;cases c<;>simp only[Dv.Agg]<;>omega
 .rw[UD a];cases c with
  |none=>exact⟨by simp only[Dv.done,Dv.Agg];omega,by simp[Dv.done],by simp only[Dv.done,Dv.Agg];omega,d⟩
  |some c=>exact⟨by simp only[Dv.done,Dv.Agg];omega,by simp only[Dv.done,Dv.Agg,BA,CJ];omega,by simp only[Dv.done,Dv.Agg];omega,d⟩
def PM{D:Dv}{k:Y}(h:Sm D k)(i:H)(s:Bg):Sm (D.write i s).1 (k+1):=by
 unfold Dv.write;split
 .exact h.more J
 .split
  .exact h.more J
  .split
   .exact h.more J
   .exact XU h _
def aO{D:Dv}{k:Y}(h:Sm D k):Sm D.sync.1 (k+1):=by
 unfold Dv.sync;split
 .exact h.more J
 .exact XU h _
def Ts(D:Dv)(i:Y)(s:By)(l:Ae By):writes D i (s::l)=if(D.write i s).2=0 then writes (D.write i s).1 (i+1) l else D.write i s:=rfl
def bH:∀(l:Ae By) (D:Dv) (i:Y),D.Ok->(writes D i l).1.Ok
 |[],D,i,h=>h
 |s::l,D,i,h=>by
  rw[Ts];split
  .exact bH l _ _ (NZ h _ _)
  .exact NZ h _ _
def oX:∀(l:Ae By) (D:Dv) (i k:Y),Sm D k->Sm (writes D i l).1 (k+Aim l)
 |[],D,i,k,h=>h
 |s::l,D,i,k,h=>by
  rw[Ts];split
  .have:=oX l _ (i+1) (k+1) (PM h i s);grind
  .exact(PM h i s).more Bl
def lZ(g:Y):∀(l:Ae Nt) (i:Y),(∀n∈l,CH n)->∀s∈FY g i l,Aim s=512
 |[],_,_,s,hs=>by simp[FY]at hs
 |n::l,i,h,s,hs=>by
  rw[FY]at hs;rcases List.mem_cons.1 hs with q|q
  .rw[q];exact VM _ _ _ _ (by have:=(SK (h n Bl)).1;omega)
  .exact lZ g l (i+1) (fun x hx=>h x Bh) s q
def bu{g i:Y}{l:Ae Nt}(h:∀n∈l,CH n):∀s∈txs g i l,Aim s=512:=by
 intro s a;unfold txs at a;rcases Dz.1 a with q|q
 .exact lZ g l i h s q
 .rw[CG.1 q];exact VM _ _ _ _ Bl
def qU{D:Dv}{gen at_:H}{l:Ae Nt}(h:Ii gen at_ (Aim l)∨∃n∈l,¬CH n):FC D gen at_ l=(D,0,210):=by unfold FC;grind
def dH{D:Dv}{gen at_:H}{l:Ae Nt}(h1:¬Ii gen at_ (Aim l))(h2:∀n∈l,CH n):FC D gen at_ l=(let r:=writes D (10+at_.toNat) (txs gen.toNat at_.toNat l);if r.2=0 then(if r.1.sync.2=0 then(r.1.sync.1,at_+Aim l+1,0)else(r.1.sync.1,0,r.1.sync.2))else(r.1,0,r.2)):=by
 unfold FC;grind
end Wal
section
attribute [local irreducible] OW KW QW EX GW NV
open Dsk
def _root_.Go.Proofs.YtkmlafmjaeeanaaGreatDoor.Dsk.Dv.read(D:Dv)(i:H):Dv×Bg×Y:=
 if D.dead then(D,[],190)else if i<0∨((Aim D.now/512:Y):H)<=i then(D,[],191)else({ D with calls:=D.calls+1 },(D.now.drop (i.toNat*512)).take 512,0)
def dY(l:Bg)(i j:Y):((BI l).drop i).take j=BI ((l.drop i).take j):=by simp[BI,TP,WC]
section
variable{w:Ad}{B b:Y}{D:Dv}
def lV(h:Cz w B b D)(m:D.Ok)(y:Small D)(i:H)(T:-9223372036854775808<=i)(S:i<=9223372036854775807):
 Bn prog 48 [.pointer (X ⟨b,0,Aa⟩),U i] w fun v w'=>v=.tuple #[Bj (D.read i).2.1,U (((D.read i).2.2:Y):H)]/\Cz w' B b (D.read i).1/\Tm w w' B Cs:=by
 have Q:=m.now;have P:=m.cap;have N:=y.calls;refine Bw func48 Z ntmps48 (by rfl) Z ?_;refine(O 9∘Zc (Se h m)) ?_;rintro _ _⟨rfl,rfl⟩;refine(O 7) ?_;rcases hd:D.dead with _|_
 .rw[Ag Bl];refine(Cd 10∘O 8)<|Zd 14 (fun x=>?_) fun x=>?_
  .have e:D.read i=(D,[],191):=by unfold Dv.read;rw[hd,Ag Bl,Ai (.inl x)]
   refine(O 12∘BH) ?_;rw[e];exact⟨Z,h,Tm.refl _ _ _⟩
  .refine(O 2∘Zc (Pf h m)) ?_;rintro _ _⟨rfl,rfl⟩;refine(O 3)<|Zi (fun t=>?_) fun t=>?_
   .have e:D.read i=(D,[],191):=by unfold Dv.read;rw[hd,Ag Bl,Ai (.inr t)]
    refine(O 5∘BH) ?_;rw[e];exact⟨Z,h,Tm.refl _ _ _⟩
   .obtain⟨j,rfl⟩:=Fq (show 0<=i by omega);have V:(j+1)*512<=Aim D.now:=J;have e:D.read (j:H)=({ D with calls:=D.calls+1 },(D.now.drop (j*512)).take 512,0):=by unfold Dv.read;rw[hd,Ag Bl,Ag J];rfl
    obtain⟨L,K,I,G,E,a⟩:=id h;obtain⟨An,W,rfl,A,q⟩:=a.now.slice;refine(O 6∘Zv (Bo a.cells)∘O 3∘Zt a.cells) ?_;rintro C o k;refine(O 6) ?_;have g:=Dev.after (D':={ D with calls:=D.calls+1 }) a.lo a.cells k o a.kept a.now a.apart a.pend a.chs a.keep;obtain⟨A2,c2,r,n,f⟩:=g.now.slice;simp only[Value.slice.injEq,true_and]at r;obtain⟨rfl,rfl⟩:=r;dsimp only at n f;refine(Zv (Bo g.cells)∘O 5) ?_;refine WV Z Z underlying23 CD Z Z Z J (f) (EF _) ?_;rintro A3 d;rw[dY]at d;have p:(j+1)*512-j*512=512:=J;have l:Aim ((D.now.drop (j*512)).take ((j+1)*512-j*512))=(j+1)*512-j*512:=by rw[BY,CK];omega
    refine(Zv (DZ d (hl:=l))∘O 3∘BH) ?_;rw[e];refine⟨?_,⟨_,_,_,_,_,g⟩,Dev.tmD a.lo a.cells k⟩;grind
 .have e:D.read i=(D,[],190):=by unfold Dv.read;rw[hd];rfl
  rw[Ai Z];refine(If 10∘O 7∘BH) ?_;rw[e];exact⟨Z,h,Tm.refl _ _ _⟩
end
end
namespace Cat
open Pth Rec Srt Dsk Wal
noncomputable def DJ(D:Dv)(gen:H)(l:Ae M):Dv×Y:=open Classical in
 if OkE gen l/\OkC l D.cap then(let r:=writes D (gen.toNat%2*5) (EK gen (Ci l));if r.2=0 then r.1.sync else r)else(D,230)
def mM{D:Dv}{gen:H}{l:Ae M}(h:¬(OkE gen l/\OkC l D.cap)):DJ D gen l=(D,230):=by unfold DJ;grind
def mL{D:Dv}{gen:H}{l:Ae M}(h:OkE gen l/\OkC l D.cap):DJ D gen l=(let r:=writes D (gen.toNat%2*5) (EK gen (Ci l));if r.2=0 then r.1.sync else r):=by unfold DJ;grind
def VA{gen:H}(s:Bg):∀t∈EK gen s,Aim t=512:=by
 intro t a;obtain⟨i,_,rfl⟩:=Ck.1 a;exact VM _ _ _ _ (ZU s i)
def mN{D:Dv}(h:D.Ok)(gen:H)(l:Ae M):(DJ D gen l).1.Ok:=by
 unfold DJ;split
 .simp only;split
  .exact aN (bH _ _ _ h)
  .exact bH _ _ _ h
 .omega
def mP{D:Dv}{k:Y}(h:Sm D k)(gen:H)(l:Ae M):Sm (DJ D gen l).1 (k+6):=by
 unfold DJ;split
 .have a:=oX (EK gen (Ci l)) D (gen.toNat%2*5) k h;rw[IA]at a;simp only;split
  .exact(aO a).more J
  .exact a.more J
 .exact h.more J
def Cb(s:Bg)(j:Y):Bg:=(s.drop (j*512)).take 512
def CT(D:Dv)(k:Y):Cl:=(BE 5).map fun i=>Cb D.now (k*5+i)
def aD(D:Dv)(k:Y):Aim (CT D k)=5:=by rfl
def Fv(D:Dv)(k:Y):Prop:=(k+1)*5<=Aim D.now/512
instance(D:Dv)(k:Y):Decidable (Fv D k):=by unfold Fv;infer_instance
structure Right(D:Dv)(k:Y):Prop where
 has:Fv D k
 dec:(CL (CT D k)).2.2=0
 par:(CL (CT D k)).1%2=(k:H)
 chk:OkC (CL (CT D k)).2.1 D.cap
noncomputable def FL(D:Dv)(k:Y):Av (H×Ae M):=open Classical in
 if Right D k then X ((CL (CT D k)).1,(CL (CT D k)).2.1)else Aa
noncomputable def Um:Av (H×Ae M)->Av (H×Ae M)->H×Ae M×Y
 |some a,X b=>if b.1<a.1 then(a.1,a.2,0)else(b.1,b.2,0)
 |some a,Aa=>(a.1,a.2,0)
 |none,X b=>(b.1,b.2,0)
 |none,Aa=>(0,[],230)
noncomputable def Hw(D:Dv):H×Ae M×Y:=if D.dead then(0,[],190)else Um (FL D 0) (FL D 1)
def DI(D:Dv)(n:Y):Dv:={ D with calls:=D.calls+n }
def MB(D:Dv):Y:=(if Fv D 0 then 5 else 0)+(if Fv D 1 then 5 else 0)
def DG(D:Dv):Dv:=if D.dead then D else DI D (MB D)
def SV{D:Dv}(h:D.Ok)(n:Y):(DI D n).Ok:=⟨h.cap,h.kept,h.now,h.keptM,h.nowM,h.pend⟩
def Vu{D:Dv}{k:Y}(h:Sm D k)(n:Y):Sm (DI D n) (k+n):=⟨by show D.calls+n<=_;have:=h.calls;omega,by show Aim D.pend<=_;have:=h.pend;omega,h.at_,h.keep⟩
def Vt(D:Dv)(a b:Y):DI (DI D a) b=DI D (a+b):=by unfold DI;grind
def jR{D:Dv}(h:D.Ok):(DG D).Ok:=by unfold DG;split;(· omega);(· exact SV h _)
def jS{D:Dv}{k:Y}(h:Sm D k):Sm (DG D) (k+10):=by
 unfold DG;split
 .exact h.more J
 .refine(Vu h _).more ?_;unfold MB;grind
end Cat
section
attribute [local irreducible] OW KW QW EX GW NV
open Pth Rec Srt Cat Dsk Wal
def mO{D:Dv}(hD:D.Ok){k:Y}(ai:Sm D k)(hk:k<=900000000)(B b:Y)(gen:H)(g0:-9223372036854775808<=gen)(g1:gen<=9223372036854775807)(l:Ae M)(hl:Aim l<=140737488355328)(W:∀m∈l,m.Ok)(A:Av AC)(c C:Y)(w:Ad)(hG:DR w)(h:Cz w B b D)(hs:Sl w C A (DH l)):
 Bn prog 44 [.pointer (X ⟨b,0,Aa⟩),U gen,.slice A (Aim l) c] w fun v w'=>v=U (((DJ D gen l).2:Y):H)/\Cz w' B b (DJ D gen l).1/\Tm w w' B Cs:=by
 have a2:=hD.cap
 have a5:∀w',Bf w w'->¬(OkE gen l/\OkC l D.cap)->(Value.int .i64 230=U (((DJ D gen l).2:Y):H)/\Cz w' B b (DJ D gen l).1/\Tm w w' B Cs):=fun w' hx q=>by
  rw[mM q];exact⟨Z,h.ext hx,Tm.Age hx _ _⟩
 refine Bw func44 Z ntmps44 (by rfl) Z ?_;refine(O 8∘Zc (Ij h hD)) ?_;rintro _ _⟨rfl,rfl⟩;refine(O 2)<|Zi (fun h0=>?_) fun h0=>?_
 .omega
 .refine(O 5∘Zc (ga gen l W hl A c C w hG hs)) ?_;rintro _ w1⟨⟨u,rfl,j⟩,t⟩;refine(O 12)<|Zi (fun he=>?_) fun he=>?_
  .have N:¬OkE gen l:=fun q=>by rw[Sw q]at he;omega
   have r:(Ep gen l).2=230:=by rw[XX N]
   refine(O 5) ?_;rw[r];refine(Bu) ?_;grind
  .have hE:OkE gen l:=by
    rcases UE gen l with⟨q,_⟩|q
    .omega
    .grind
   rw[Sw hE]at j;simp only[IA]at j;have p:=h.ext t;refine(O 6∘Zc (Ij p hD)) ?_;rintro _ _⟨rfl,rfl⟩;refine(Zc (Ur l W hl D.cap A c C w1 (hG.ext t) (hs.ext t))) ?_;rintro _ w2⟨rfl,I⟩;refine(O 7) ?_;have x2:=t.trans I;refine Zi (fun hc=>?_) fun hc=>?_
   .have N:¬OkC l D.cap:=fun q=>by rw[Si q]at hc;omega
    have r:Kr l D.cap=230:=ON N;refine(O 5) ?_;rw[r];refine(Bu) ?_;grind
   .have hC:OkC l D.cap:=MX fun q=>hc (by rw[ON q];decide);obtain⟨g,rfl⟩:=Fq hE.low;have a3:=hE.high;have S:=mL (D:=D) (gen:=(g:H)) ⟨hE,hC⟩;have y:=VA (gen:=(g:H)) (Ci l);have aj:=IA (g:H) (Ci l);have e:=j.ext I;generalize EK (g:H) (Ci l)=T at S y aj e;simp only[RH]at S;obtain⟨A3,c3,rfl,a4,_⟩:=e.slice;have h1:=p.ext I;refine(O 9)<|Lo (fun((i,E,wr):Y×Dv×Ad)=>(i<=5/\E.Ok/\Sm E (k+i)/\writes E (g%2*5+i) (T.drop i)=writes D (g%2*5) T/\Cz wr B b E/\Tm w wr B Cs/\Bp wr w.heap.size 9 1 (.slice A3 5 c3) 5 (T.map Bj),[(0,.pointer (X ⟨b,0,Aa⟩)),(1,U g),(32,.slice A3 5 c3),(33,U ((5:Y):H)),(34,U i)],wr,5-i)) (0,D,w2) ?_ ?_
    .exact⟨BD _,hD,ai,Z,h1,Tm.Age x2 _ _,e⟩
    .rintro⟨i,E,wr⟩⟨hi,Q,L,x,G,K,f⟩;refine(O 5)<|Zi (fun al=>?_) fun al=>?_
     .have n:i<Aim T:=J;have a0:T.drop i=T[i]::T.drop (i+1):=Ds n;have a1:=y T[i] (BM n);have ab:(T.map Bj)[i]? =X (Bj T[i]):=by rw[DP,BN n];rfl
      rw[a0,Ts]at x;generalize T[i]=s at x a1 ab;obtain⟨A4,c4,e4,_,V⟩:=f.slice;cases e4;obtain⟨bb,o,rfl,_,P⟩:=V.at_ Bh;refine(O 7∘Zv (BZ (P i _ ab))∘O 12) ?_;have cw:=Tq G Q (L.small J) ((g%2*5+i:Y):H) J J s J;refine(Zc cw) ?_;rintro _ w5⟨rfl,a,d⟩;refine(O 7)<|Zi (fun ao=>?_) fun ao=>?_
      .rw[Ag J]at x;refine(O 5∘Bu) ?_;rw[S,<-x];rw[Ag J];exact⟨Z,a,K.trans d⟩
      .rw[Ai J]at x;refine(O 6)<|Lb ((i+1),((E.write ((g%2*5+i:Y):H) s).1),w5) ?_;exact⟨J,NZ Q _ _,PM L _ _,x,a,K.trans d,d.own f Bc⟩
     .obtain rfl:i=5:=J;rw[KX J]at x;have af:writes D (g%2*5) T=(E,0):=x.symm;rw[af]at S;simp only[if_true]at S;refine(O 4∘Zc (Rs G Q (L.small J))) ?_;rintro _ w5⟨rfl,a,d⟩;refine(O 2∘Bu) ?_;rw[S];exact⟨Z,a,K.trans d⟩
section
variable{w w':Ad}{B b:Y}{D:Dv}{vk vn vp vq:Ah}{vs:Bm}
def Dev.mo{S:Bi}(h:Dev w B b D vk vn vp vq vs)(hm:Mo w w' S)(o:∀k∈S,∃T l,Bk w k T l/\T≠85/\T≠5/\T≠137/\T≠4)(e:KP w' D.pend vs):Dev w' B b D vk vn vp vq vs:=by
 have nb:∀{k T l},Bk w k T l->(T=85∨T=5∨T=137∨T=4)->k∉S:=fun {k T l} i m d=>by
  obtain⟨T',p,f,x,t,r,q⟩:=o k d;obtain⟨rfl,_⟩:=i.det f;grind
 have a:∀{T v n g},Bp w B T 1 v n g->(T=85∨T=5∨T=137∨T=4)->∀k,v.ownBlock=X k->k∉S:=fun {T v n g} j m k d=>by
  obtain⟨_,l,i⟩:=j.blkT k d;grind
 exact⟨h.lo,h.cells.mo hm (nb h.cells (.inl Z)),h.kept.mo hm (a h.kept (.inr (.inl Z))),h.now.mo hm (a h.now (.inr (.inl Z))),h.apart,h.pend.mo hm (a h.pend (.inr (.inr (.inl Z)))),e,h.keep.mo hm (a h.keep (.inr (.inr (.inr Z))))⟩
def lX(hv:Dev w B b D vk vn vp vq vs)(k:D.Ok)(q:Small D)(t:D.dead=Aj){j:Y}(G:j<Aim D.now/512):
 Bn prog 48 [.pointer (X ⟨b,0,Aa⟩),U (j:H)] w fun v w'=>v=.tuple #[Bj (Cb D.now j),U ((0:Y):H)]/\Dev w' B b (DI D 1) vk vn vp vq vs/\Mo w w' [b]:=by
 have E:=k.now;have C:=k.cap;have A:=q.calls;have h:=hv.at_;have p:=Se h k;rw[t]at p;refine Bw func48 Z ntmps48 (by rfl) Z ?_;refine(O 9∘Zc p) ?_;rintro _ _⟨rfl,rfl⟩;refine(O 7∘Cd 10∘O 8∘Ig 14∘O 2∘Zc (Pf h k)) ?_;rintro _ _⟨rfl,rfl⟩;refine(O 3∘Cd 19∘O 7) ?_;have r:(j+1)*512<=Aim D.now:=J;obtain⟨An,I,rfl,x,n⟩:=hv.now.slice;refine(Zv (Bo hv.cells)∘O 3∘Zt hv.cells) ?_;rintro y m g;refine(O 6) ?_;have e:=Dev.after (D':=DI D 1) hv.lo hv.cells g m hv.kept hv.now hv.apart hv.pend hv.chs hv.keep;obtain⟨A2,K,o,l,d⟩:=e.now.slice;simp only[DI,Value.slice.injEq,true_and]at o;obtain⟨rfl,rfl⟩:=o;dsimp only[DI]at l d;refine(Zv (Bo e.cells)∘O 5) ?_;refine WV Z Z underlying23 CD Z Z Z J (d) (EF _) ?_;rintro A3 a;rw[dY]at a;have f:(j+1)*512-j*512=512:=J;have i:Aim ((D.now.drop (j*512)).take ((j+1)*512-j*512))=(j+1)*512-j*512:=by rw[BY,CK];omega
 refine(Zv (DZ a (hl:=i))∘O 3∘BH) ?_;refine⟨?_,e,g⟩;rw[f];rfl
end
structure SlI(w:Ad)(B0:Y)(D:Dv)(j:Y)(g:H)(v:Ah)(r:Aw):Prop where
 right:r=Af↔Right D j
 gen:r=Af->g=(CL (CT D j)).1
 own:r=Af->Bp w B0 60 5 v (Aim (CL (CT D j)).2.1) (DH (CL (CT D j)).2.1)
def JB(w:Ad)(B0:Y)(D:Dv)(j k:Y)(g:H)(v:Ah)(r:Aw):Prop:=v.oneCell'=Af/\(j<k->SlI w B0 D j g v r)/\(k<=j->r=Aj)
def Kl(w:Ad)(B0 sb:Y)(D:Dv)(k:Y):Prop:=∃g0 v0 r0 g1 v1 r1,Bk w sb 140 [U g0,v0,.bool r0,U g1,v1,.bool r1]/\JB w B0 D 0 k g0 v0 r0/\JB w B0 D 1 k g1 v1 r1
def JB.keep{w w':Ad}{B0:Y}{D:Dv}{j k:Y}{g:H}{v:Ah}{r:Aw}(h:JB w B0 D j k g v r)(ho:∀{v n xs},Bp w B0 60 5 v n xs->Bp w' B0 60 5 v n xs):JB w' B0 D j k g v r:=
 ⟨h.1,fun q=>⟨(h.2.1 q).right,(h.2.1 q).gen,fun z=>ho ((h.2.1 q).own z)⟩,h.2.2⟩
def Kl.keep{w w':Ad}{d a:Y}{D:Dv}{k:Y}(h:Kl w d a D k)(e:∀{v n xs},Bp w d 60 5 v n xs->Bp w' d 60 5 v n xs)(m:∀{l},Bk w a 140 l->Bk w' a 140 l):Kl w' d a D k:=by
 obtain⟨t,g,j,r,f,i,q,p,o⟩:=h;exact⟨t,g,j,r,f,i,m q,p.keep e,o.keep e⟩
def JB.skip{w:Ad}{a:Y}{D:Dv}{j k:Y}{g:H}{v:Ah}{r:Aw}(h:JB w a D j k g v r)(e:¬Fv D k):JB w a D j (k+1) g v r:=by
 refine⟨h.1,fun q=>?_,fun q=>h.2.2 J⟩;rcases Db j k with z|z
 .exact h.2.1 z
 .obtain rfl:j=k:=J;have d:=h.2.2 z;subst d;exact⟨⟨(fun q=>by cases q),fun q=>absurd q.has e⟩,fun q=>(by cases q),fun q=>(by cases q)⟩
def Kl.skip{w:Ad}{e a:Y}{D:Dv}{k:Y}(h:Kl w e a D k)(d:¬Fv D k):Kl w e a D (k+1):=by
 obtain⟨p,g,j,o,f,i,n,m,l⟩:=h;exact⟨p,g,j,o,f,i,n,m.skip d,l.skip d⟩
def JB.next{w:Ad}{B0:Y}{D:Dv}{j k:Y}{g:H}{v:Ah}{r:Aw}(h:JB w B0 D j k g v r)(hn:j≠k):JB w B0 D j (k+1) g v r:=
 ⟨h.1,fun q=>h.2.1 J,fun q=>h.2.2 J⟩
def Acg{w w':Ad}{a e:Y}{D:Dv}{k:Y}{g i h:H}{v v0 v1:Ah}{r r0 r1:Aw}(hk:k<2)(p:Bk w e 140 [U i,v0,.bool r0,U h,v1,.bool r1])(h0:JB w a D 0 k i v0 r0)(h1:JB w a D 1 k h v1 r1)(m:JB w a D k (k+1) g v r)(hm:Mo w w' [e])
 (d:Bk w' e 140 ([U i,v0,.bool r0,U h,v1,.bool r1].take (0+k*3)++[U g,v,.bool r]++[U i,v0,.bool r0,U h,v1,.bool r1].drop (0+k*3+3))):Kl w' a e D (k+1):=by
 have f:∀{v n j},Bp w a 60 5 v n j->Bp w' a 60 5 v n j:=fun {v n j} l=>l.mo hm (fun q o=>by simp;exact fun z=>l.ne p Bc q o z.symm);rcases(show k=0∨k=1 by omega)with rfl|rfl
 .exact⟨_,_,_,_,_,_,d,m.keep f,(h1.next Bc).keep f⟩
 .exact⟨_,_,_,_,_,_,d,(h0.next Bc).keep f,m.keep f⟩
def dT{w:Ad}{b:Y}{T:Ay}{l l2:Bm}{o:Y}(h:Bk w b T l)(e:(l.drop o).take (Aim l2)=l2):∀j u,l2[j]? =X u->w.cell? ⟨b,o+j,Aa⟩=X u:=by
 intro j u a;have d:=(HF.1 a).1;refine h.cell_of ?_;grind
def LD{w w':Ad}{B:Y}{p:Ay->Aw}(h:DR w)(ht:Tm w w' B p)(f:0<B):DR w':=by
 obtain⟨m,e⟩:=h;obtain⟨S,a,g⟩:=ht;have d:=World.block_lt_of_cell? w _ e;refine⟨m,?_⟩;have i:=a.block 0 d (fun q=>by grind);unfold World.cell? at e ⊢;grind
section
variable{w w':Ad}{B b:Y}{D:Dv}{vk vn vp vq:Ah}{vs:Bm}
def Dev.tmB(h:Dev w B b D vk vn vp vq vs)(hm:Mo w w' [b]):Tm w w' B Cs:=⟨[b],hm,fun k hk=>by
 simp only[CG]at hk;subst hk;exact⟨h.lo,_,_,h.cells,Z⟩⟩
end
def ta{ss:Cl}(h:(CL ss).2.2=0):0<=(CL ss).1:=by
 rcases Tu (OkD ss)with q|q
 .rw[Su q];exact(Sx q.enc).1.low
 .rw[UA q]at h;grind
def sX(ss:Cl):(∀m∈(CL ss).2.1,m.Ok)/\Aim (CL ss).2.1<=1000000000∨1000000<Aim ss:=by
 rcases Db 1000000 (Aim ss)with d|d
 .omega
 .left;rcases Tu (OkD ss)with q|q
  .rw[Su q];refine⟨kD ss,?_⟩;have f:=Zg (Aim (Eo ss)+1) (Eo ss) [];have e:=XL ss;have a:Ex (Aim (Eo ss)+1) (Eo ss) []=Gn ss:=rfl;grind
  .rw[UA q];simp
def Acf{D:Dv}{k i:Y}(h:i<5):Dd ((CT D k).take (i+1))=Dd ((CT D k).take i)++[Bj (Cb D.now (k*5+i))]:=by
 have a:i<Aim (CT D k):=by rw[aD];exact h
 rw[<-CR a];simp[Dd,CT]
def rT{D:Dv}(hD:D.Ok){k0:Y}(cp:Sm D k0)(dv:k0<=900000000)(B b:Y)(w:Ad)(hG:DR w)(cc:0<B)(h:Cz w B b D):
 Bn prog 39 [.pointer (X ⟨b,0,Aa⟩)] w fun v w'=>(∃u,v=.tuple #[U (Hw D).1,u,U (((Hw D).2.2:Y):H)]/\Bp w' w.heap.size 60 5 u (Aim (Hw D).2.1) (DH (Hw D).2.1))/\Cz w' B b (DG D)/\Tm w w' B Cs:=by
 have df:=hD.cap;have c6:=hD.now;refine Bw func39 Z ntmps39 Be Z ?_;refine(O 10∘Zc (Ij h hD)) ?_;rintro _ _⟨rfl,rfl⟩;refine(O 2)<|Zi (fun h0=>?_) fun h0=>?_
 .omega
 .refine(O 5∘Zc (Uz h hD)) ?_;rintro _ _⟨rfl,rfl⟩;refine(O 1) ?_;refine HE Z (fun hd=>?_) (fun hd=>?_)
  .have e1:Hw D=(0,[],190):=by unfold Hw;rw[Ai hd]
   have e2:DG D=D:=by unfold DG;rw[Ai hd]
   refine(O 6∘CS) ?_;rw[e1,e2];exact⟨⟨_,Z,Bp.nil _ _ _ _⟩,h,Tm.refl _ _ _⟩
  .have e1:Hw D=Um (FL D 0) (FL D 1):=by unfold Hw;rw[Ag (by rw[hd];decide)]
   have e2:DG D=DI D (MB D):=by unfold DG;rw[Ag (by rw[hd];decide)]
   rw[e1,e2];obtain⟨vk,vn,vp,vq,vs,hv⟩:=id h;refine(O 3∘Zn) ?_;rintro L w1 db c2 m;refine(O 6) ?_;have g:Kl w1 w.heap.size L D 0:=⟨_,_,_,_,_,_,c2,⟨Z,fun q=>by omega,fun _=>rfl⟩,⟨Z,fun q=>by omega,fun _=>rfl⟩⟩;refine Lc (fun(wr:Ad)=>(Dev wr B b (DI D (MB D)) vk vn vp vq vs/\Tm w wr B Cs/\Kl wr w.heap.size L D 2,[(5,.pointer (X ⟨L,0,Aa⟩))],wr)) ?_ ?_
   .refine(O 1)<|Lo (fun((k,n,wr):Y×Y×Ad)=>(k<=2/\n=(if 0<k/\Fv D 0 then 5 else 0)+(if 1<k/\Fv D 1 then 5 else 0)/\Dev wr B b (DI D n) vk vn vp vq vs/\Tm w wr B Cs/\Kl wr w.heap.size L D k,[(0,.pointer (X ⟨b,0,Aa⟩)),(5,.pointer (X ⟨L,0,Aa⟩)),(21,U k)],wr,2-k)) (0,0,w1) ?_ ?_
    .exact⟨BD _,Bl,hv.ext m,Tm.Age m _ _,g⟩
    .rintro⟨k,n,wr⟩⟨ds,hn,f,ab,g⟩;have c8:n<=10:=by rw[hn];split<;>split<;>omega
     have dk:(DI D n).dead=Aj:=hd;have cq:(DI D n).Ok:=SV hD n;have c4:B<=L:=by have:=f.lo;have:=hv.lo;have:=hv.cells.lt;omega
     have cs:(DI D n).now.length=Aim D.now:=rfl;refine(O 5)<|Zi (fun a9=>?_) fun a9=>?_
     .have dn:(if 0<k+1/\Fv D 0 then 5 else 0)+(if 1<k+1/\Fv D 1 then 5 else 0)=n+(if Fv D k then 5 else 0):=by
       rcases(show k=0∨k=1 by omega)with rfl|rfl
       .rw[hn];simp
       .rw[hn];simp
      refine(O 12∘Zc (Pf f.at_ cq)) ?_;rintro _ _⟨rfl,rfl⟩;refine(O 5)<|Zi (fun bi=>?_) fun bi=>?_
      .have ct:¬Fv D k:=fun q=>by unfold Fv at q;omega
       refine(O 5)<|Lb ((k+1),n,wr) ?_;refine⟨J,?_,f,ab,g.skip ct⟩;grind
      .have bb:Fv D k:=by rw[cs]at bi;unfold Fv;omega
       have bj:=bb;unfold Fv at bj;refine(O 10)<|Lc (fun((v,K):Ah×Ad)=>(Bp K wr.heap.size 9 1 v 5 (Dd (CT D k))/\Dev K B b (DI D (n+5)) vk vn vp vq vs/\Mo wr K [b],[(0,.pointer (X ⟨b,0,Aa⟩)),(5,.pointer (X ⟨L,0,Aa⟩)),(6,U k),(7,v),(21,U k)],K)) ?_ ?_
       .refine(O 1)<|Lo (fun((i,v,K):Y×Ah×Ad)=>(i<=5/\Bp K wr.heap.size 9 1 v i (Dd ((CT D k).take i))/\Dev K B b (DI D (n+i)) vk vn vp vq vs/\Mo wr K [b],[(0,.pointer (X ⟨b,0,Aa⟩)),(5,.pointer (X ⟨L,0,Aa⟩)),(6,U k),(7,v),(21,U k),(30,U i)],K,5-i)) (0,(.slice Aa 0 0),wr) ?_ ?_
        .exact⟨BD _,Bp.nil _ _ _ _,f,Mo.refl _ _⟩
        .rintro⟨i,v,K⟩⟨hi,E,a2,aj⟩;refine(O 5)<|Zi (fun cu=>?_) fun cu=>?_
         .have cr:=lX a2 (SV hD _) ((Vu cp (n+i)).small J) hd (j:=k*5+i) (by show _<Aim D.now/512;omega);refine(O 15∘Zc cr) ?_;rintro _ w5⟨rfl,co,cb⟩;refine(O 9) ?_;have N:=E.mo cb (fun q hq=>by simp;exact fun z=>E.ne a2.cells Bc q hq z.symm);have bh:=aj.trans cb;refine(Qs wr.heap.size bh.size N) ?_;rintro _ v6 w6 bq bf c1;refine(O 7)<|Lb ((i+1),v6,w6) ?_
          have ca:Mo wr w6 [b]:=Mo.fresh (S:=[b]++v.ownBlock.toList) ((bh.mono Bl).trans (bf.mono Bh)) (fun q hq a9=>by
           rcases Dz.1 hq with z|z
           .omega
           .have:=(N.lt q (Fb.1 z)).1;omega)
          refine⟨J,by rw[Acf J];exact bq,?_,ca⟩
          have dg:=co.mo bf (fun q hq=>by
           obtain⟨_,l,d3⟩:=N.blkT q (Fb.1 hq);grind) (f.chs.tm (f.tmB ca) Z Z)
          assumption
         .obtain rfl:i=5:=J;rw[DA Cr]at E;refine(O 1∘Lm (v,K)) ?_;grind
       .rintro⟨v,K⟩⟨E,a2,aj⟩;obtain⟨A5,c5,rfl,_,b9⟩:=E.slice;have bl:Tm w K B Cs:=ab.trans (f.tmB aj);have c3:=LD hG bl cc;have cv:=aD D k;have cd:=tu (CT D k) J A5 c5 _ K c3 b9;rw[cv]at cd;have b1:=ta (ss:=CT D k);have ce:=(sX (CT D k)).resolve_right J;have d:∀r:Aw,(r=Af↔((CL (CT D k)).2.2=0/\(CL (CT D k)).1%2=(k:H)/\OkC (CL (CT D k)).2.1 D.cap))->(r=Af↔Right D k):=fun r q=>q.trans ⟨fun z=>⟨bb,z.1,z.2.1,z.2.2⟩,fun z=>⟨z.dec,z.par,z.chk⟩⟩;have bm:Kl K w.heap.size L D k:=g.keep (fun ho=>(f.tmB aj).own ho Bc) (fun hb=>(f.tmB aj).bk hb Bc);have b2:∀(w':Ad) (v:Ah) (r:Aw),(r=Af↔Right D k)->Bp w' w.heap.size 60 5 v (Aim (CL (CT D k)).2.1) (DH (CL (CT D k)).2.1)->JB w' w.heap.size D k (k+1) (CL (CT D k)).1 v r:=fun w' v r h1 h2=>⟨Bp.one h2,fun _=>⟨h1,fun _=>rfl,fun _=>h2⟩,fun q=>by omega⟩;generalize da:(CL (CT D k)).1=gg at cd b1 d b2;generalize c9:(CL (CT D k)).2.1=ll at cd ce d b2;generalize(CL (CT D k)).2.2=ee at cd b1 d;refine(O 3∘Zc cd) ?_;rintro _ w7⟨⟨u7,rfl,af⟩,a1⟩;refine(O 8) ?_;have bn:Kl w7 w.heap.size L D k:=bm.keep (fun ho=>ho.ext a1) (fun hb=>hb.ext a1);have b6:=a2.ext a1;have b7:Tm w w7 B Cs:=bl.trans (Tm.Age a1 _ _);have cn:=bl.size;have a5:Bp w7 w.heap.size 60 5 u7 (Aim ll) (DH ll):=af.more cn;obtain⟨A7,c7,rfl,_,b8⟩:=af.slice;obtain⟨Q,v0,r0,P,v1,W,T,a7,a6⟩:=bn
        have C:∀(r:Aw) (wx V:Ad),(r=Af↔Right D k)->Bf w7 wx->Bk V L 140 ([U Q,v0,.bool r0,U P,v1,.bool W].take (0+k*3)++[U gg,.slice A7 (Aim ll) c7,.bool r]++[U Q,v0,.bool r0,U P,v1,.bool W].drop (0+k*3+3))->Mo wx V [L]->(k+1<=2/\n+5=(if 0<k+1/\Fv D 0 then 5 else 0)+(if 1<k+1/\Fv D 1 then 5 else 0)/\Dev V B b (DI D (n+5)) vk vn vp vq vs/\Tm w V B Cs/\Kl V w.heap.size L D (k+1)):=fun r wx V q I hb hm=>by
         have b5:=b6.ext I;have cf:=T.ext I;refine⟨J,Bh,b5.mo hm (fun z hz=>?_) (b5.chs.tm (Tm.set cf hm c4) Z Z),(b7.trans (Tm.Age I _ _)).fresh hm (fun z hz=>?_),Acg J cf (a7.keep (fun ho=>ho.ext I)) (a6.keep (fun ho=>ho.ext I)) (b2 wx _ r q (a5.ext I)) hm hb⟩
         .grind
         .grind
        refine(O 7)<|Zd 58 (fun he=>?_) fun he=>?_
        .obtain rfl:ee=0:=J;obtain⟨gN,rfl⟩:=Fq (b1 Z);refine(O 6)<|Zd 64 (fun hp=>?_) fun hp=>?_
         .refine(O 2∘Zc (Ij b6.at_ (SV hD _))) ?_;rintro _ _⟨rfl,rfl⟩;refine(Zc (Ur ll ce.1 J D.cap A7 c7 _ w7 (LD hG b7 cc) b8)) ?_;rintro _ w8⟨rfl,b4⟩;refine OW.val Z Z (by first|exact Oe (b:=0) Z Z|exact Of Z Z) ?_;refine OW.val Z Z (Om Z Z) ?_;refine OW.val Z Z (RF (pl:=[(0,1),(1,1),(2,1)]) (ks:=[0,1,2]) (is:=[0,1,2]) (zs:=[U 0,.slice Aa 0 0,.bool Aj]) underlying139 LM Be Z Z Z (by first|rfl|(simp only[II,IJ,ID,IE,Bool.and_eq_true,Value.oneCell'];repeat (first|assumption|exact Bp.one Cr|constructor))) (by simp only[LK,IN,Lf];rfl)) ?_;refine OW.val Z Z (PT underlying140 LM Z Z J) ?_;refine Ue Z LM Z Z Z (by first|rfl|(simp only[II,IJ,ID,IE,Bool.and_eq_true,Value.oneCell'];repeat (first|assumption|exact Bp.one Cr|constructor))) ((T.ext b4)) Bx ?_;rintro w9 a0 al;refine(O 6)<|Lb ((k+1),(n+5),w9) ?_;refine C _ w8 w9 ?_ b4 a0 al;apply d;have e9:(Kr ll (D.cap:H)=0)↔OkC ll (D.cap:H):=⟨fun z=>MX fun y=>(by rw[ON y]at z;omega),fun z=>Si z⟩;simp only[decide_eq_true_eq];refine Iff.intro (fun z=>HZ ?_ (HZ ?_ (e9.1 z))) (fun z=>e9.2 z.2.2)
          .simp
          .omega
         .refine HK Z Z ?_;refine HK Z Z ?_;refine HK Z Z ?_;refine HK Z Z ?_;refine HK Z Z ?_;refine OW.val Z Z (Jp Z Z) ?_;refine OW.val Z Z (RF (pl:=[(0,1),(1,1),(2,1)]) (ks:=[0,1,2]) (is:=[0,1,2]) (zs:=[U 0,.slice Aa 0 0,.bool Aj]) underlying139 LM Be Z Z Z (by first|rfl|(simp only[II,IJ,ID,IE,Bool.and_eq_true,Value.oneCell'];repeat (first|assumption|exact Bp.one Cr|constructor))) (by simp only[LK,IN,Lf];rfl)) ?_;refine OW.val Z Z (PT underlying140 LM Z Z J) ?_;refine Ue Z LM Z Z Z (by first|rfl|(simp only[II,IJ,ID,IE,Bool.and_eq_true,Value.oneCell'];repeat (first|assumption|exact Bp.one Cr|constructor))) (T) Bx ?_;rintro w9 a0 al;refine(O 6)<|Lb ((k+1),(n+5),w9) ?_;refine C _ w7 w9 ?_ (Bf.refl _) a0 al;apply d;grind
        .refine HK Z Z ?_;refine HK Z Z ?_;refine HK Z Z ?_;refine HK Z Z ?_;refine OW.val Z Z (Jp Z Z) ?_;refine OW.val Z Z (EX.move Z) ?_;refine HK Z Z ?_;refine HK Z Z ?_;refine HK Z Z ?_;refine HK Z Z ?_;refine HK Z Z ?_;refine OW.val Z Z (Jp Z Z) ?_;refine OW.val Z Z (RF (pl:=[(0,1),(1,1),(2,1)]) (ks:=[0,1,2]) (is:=[0,1,2]) (zs:=[U 0,.slice Aa 0 0,.bool Aj]) underlying139 LM Be Z Z Z (by first|rfl|(simp only[II,IJ,ID,IE,Bool.and_eq_true,Value.oneCell'];repeat (first|assumption|exact Bp.one Cr|constructor))) (by simp only[LK,IN,Lf];rfl)) ?_;refine OW.val Z Z (PT underlying140 LM Z Z J) ?_;refine Ue Z LM Z Z Z (by first|rfl|(simp only[II,IJ,ID,IE,Bool.and_eq_true,Value.oneCell'];repeat (first|assumption|exact Bp.one Cr|constructor))) (T) Bx ?_;rintro w9 a0 al;refine(O 6)<|Lb ((k+1),(n+5),w9) ?_;refine C _ w7 w9 ?_ (Bf.refl _) a0 al;apply d;grind
     .obtain rfl:k=2:=J;refine(O 1∘Lm wr) ?_;refine⟨?_,ab,g⟩;have:n=MB D:=by rw[hn];unfold MB;simp
      grind
   .rintro wr⟨f,ab,g⟩;obtain⟨Q,v0,r0,P,v1,W,T,a7,a6⟩:=g;have a4:=a7.2.1 Bc;have a3:=a6.2.1 Bc;have d2:=a7.1;have d1:=a6.1;refine(O 1)<|Lc (fun((V,a,c):Ad×Y×Y)=>(Bf wr V/\Bk V a 139 [U Q,v0,.bool r0]/\Bk V c 139 [U P,v1,.bool W],[(14,.pointer (X ⟨a,0,Aa⟩)),(15,.pointer (X ⟨c,0,Aa⟩))],V)) ?_ ?_
    .have d0:wr.drew.heap.size=wr.heap.size:=rfl;have cg:Bk wr.drew L 140 [U Q,v0,.bool r0,U P,v1,.bool W]:=T.ext (Bf.drew wr);refine(Yr 8 (fun w'=>Bk w' L 140 [U Q,v0,.bool r0,U P,v1,.bool W]) cg) fun p=>(Gv [0]∘Yw 1 (he:=by exact fun _ b3=>Do [U Q,v0,.bool r0] (dT b3 (o:=0) (l2:=[U Q,v0,.bool r0]) Z))∘Gv [2]∘Yw 3 (he:=by exact fun _ b3=>Do [U P,v1,.bool W] (dT b3 (o:=3) (l2:=[U P,v1,.bool W]) Z)))<|Ye 4 5 ?_ ?_
     .refine(Jn 4) ?_;rintro ba x1 cz ai m;refine⟨p.ext m,fun p=>?_⟩;refine(Yn 5) ?_;rintro bc x2 cx a8 t;refine⟨p.ext t,fun p=>?_⟩;have G:ba≠bc:=by have:=ai.lt;omega
      have ch:=ai.ext t;have cm:=m.size;have cl:=t.size;refine(Ys 6 ch) ?_;rintro x3 bx A;refine⟨p.mo A (by simp;exact p.ne ch Bc),fun p=>?_⟩;have ao:=a8.mo A (by simp;exact fun z=>G z.symm);have ck:=A.size;refine(Ys 7 ao) ?_;rintro x4 bs x;refine⟨p.mo x (by simp;exact p.ne ao Bc),fun p=>?_⟩;refine(Yd) ?_;have cj:=x.size;refine(Lm (x4,ba,bc)) ?_;have b0:Mo wr x4 [ba,bc]:=(((((Mo.Age (Bf.drew wr) _).trans (Mo.Age m _)).trans (Mo.Age t _)).trans (A.mono Bl)).trans (x.mono Bl));exact⟨(Mo.fresh (S':=[]) b0 (fun q hq a9=>by simp at hq;rcases hq with rfl|rfl<;>omega)).ext,bx.mo x (by simp;exact G),bs⟩
     .refine(Jn 5) ?_;rintro bc x1 cz ai m;refine⟨p.ext m,fun p=>?_⟩;refine(Yn 4) ?_;rintro ba x2 cx a8 t;refine⟨p.ext t,fun p=>?_⟩;have G:ba≠bc:=by have:=ai.lt;omega
      have c0:=ai.ext t;have cm:=m.size;have cl:=t.size;refine(Ys 6 a8) ?_;rintro x3 bx A;refine⟨p.mo A (by simp;exact p.ne a8 Bc),fun p=>?_⟩;have ao:=c0.mo A (by simp;exact fun z=>G z.symm);have ck:=A.size;refine(Ys 7 ao) ?_;rintro x4 bs x;refine⟨p.mo x (by simp;exact p.ne ao Bc),fun p=>?_⟩;refine(Yd) ?_;have cj:=x.size;refine(Lm (x4,ba,bc)) ?_;have b0:Mo wr x4 [ba,bc]:=(((((Mo.Age (Bf.drew wr) _).trans (Mo.Age m _)).trans (Mo.Age t _)).trans (A.mono Bl)).trans (x.mono Bl));exact⟨(Mo.fresh (S':=[]) b0 (fun q hq a9=>by simp at hq;rcases hq with rfl|rfl<;>omega)).ext,bx.mo x (by simp;exact G),bs⟩
    .rintro⟨V,a,c⟩⟨I,ha,hc⟩;have C:∀w',Bf wr w'->Cz w' B b (DI D (MB D))/\Tm w w' B Cs:=fun w' q=>⟨f.at_.ext q,ab.trans (Tm.Age q _ _)⟩;have s0:r0=Af->FL D 0=X (Q,(CL (CT D 0)).2.1):=fun q=>by unfold FL;rw[Ai (a4.right.1 q),a4.gen q]
     have s1:W=Af->FL D 1=X (P,(CL (CT D 1)).2.1):=fun q=>by unfold FL;rw[Ai (a3.right.1 q),a3.gen q]
     have n0:r0=Aj->FL D 0=Aa:=fun q=>by unfold FL;rw[Ag (fun z=>by have:=a4.right.2 z;rw[q]at this;cases this)]
     have n1:W=Aj->FL D 1=Aa:=fun q=>by unfold FL;rw[Ag (fun z=>by have:=a3.right.2 z;rw[q]at this;cases this)]
     have o0:=a4.own;have o1:=a3.own;rcases Bool.eq_false_or_eq_true r0 with rfl|rfl<;>rcases Bool.eq_false_or_eq_true W with rfl|rfl
     .rw[s0 Z,s1 Z];refine(O 20)<|Zi (fun cw=>?_) fun cw=>?_
      .have e:Um (X (Q,(CL (CT D 0)).2.1)) (X (P,(CL (CT D 1)).2.1))=(Q,(CL (CT D 0)).2.1,0):=Ai (show P<Q by omega);rw[e];refine(O 3∘Zq (by exact fun _=>Bo (ha.drewN _))∘O 1∘Zq (by exact fun _=>Bo (ha.drewN _))∘O 3∘QW.nil) fun nq=>(CS) ?_;exact⟨⟨_,Z,((o0 Z).ext I).ext (Bf.drewN _ _)⟩,C _ (I.trans (Bf.drewN _ _))⟩
      .have e:Um (X (Q,(CL (CT D 0)).2.1)) (X (P,(CL (CT D 1)).2.1))=(P,(CL (CT D 1)).2.1,0):=Ag (show ¬P<Q by omega);rw[e];refine(O 10∘Zq (by exact fun _=>Bo (hc.drewN _))∘O 1∘Zq (by exact fun _=>Bo (hc.drewN _))∘O 3∘QW.nil) fun nq=>(CS) ?_;exact⟨⟨_,Z,((o1 Z).ext I).ext (Bf.drewN _ _)⟩,C _ (I.trans (Bf.drewN _ _))⟩
     .rw[s0 Z,n1 Z];refine(O 24∘Zq (by exact fun _=>Bo (ha.drewN _))∘O 1∘Zq (by exact fun _=>Bo (ha.drewN _))∘O 3∘QW.nil) fun nq=>(CS) ?_;exact⟨⟨_,Z,((o0 Z).ext I).ext (Bf.drewN _ _)⟩,C _ (I.trans (Bf.drewN _ _))⟩
     .rw[n0 Z,s1 Z];refine(O 31∘Zq (by exact fun _=>Bo (hc.drewN _))∘O 1∘Zq (by exact fun _=>Bo (hc.drewN _))∘O 3∘QW.nil) fun nq=>(CS) ?_;exact⟨⟨_,Z,((o1 Z).ext I).ext (Bf.drewN _ _)⟩,C _ (I.trans (Bf.drewN _ _))⟩
     .rw[n0 Z,n1 Z];refine(O 36∘CS) ?_;exact⟨⟨_,Z,Bp.nil _ _ _ _⟩,C _ I⟩
end
section
attribute [local irreducible] OW KW QW EX GW NV
open Rec Pth Dsk Wal
def _root_.Go.Proofs.YtkmlafmjaeeanaaGreatDoor.Wal.Nt.cells(n:Nt):Bm:=U n.kind::n.mem.cells
abbrev CC(l:Ae Nt):Bm:=l.flatMap Nt.cells
def Vb(l:Ae Nt):Aim (CC l)=Aim l*6:=by
 induction l with
 |nil=>rfl
 |cons p l ih=>simp only[CC,EY,BA]at ih ⊢;rw[ih];simp[Nt.cells,M.cells];omega
def ye(l:Ae Nt):∀u∈CC l,u.oneCell'=Af:=by
 intro u a;obtain⟨p,_,h⟩:=Ov.1 a;simp only[Nt.cells,M.cells,List.mem_cons,List.not_mem_nil,or_false]at h;rcases h with rfl|rfl|rfl|rfl|rfl|rfl<;>rfl
def Bk.part{w:Ad}{b:Y}{T:Ay}{l l2:Bm}{o:Y}(h:Bk w b T l)(e:(l.drop o).take (Aim l2)=l2):∀j u,l2[j]? =X u->w.cell? ⟨b,o+j,Aa⟩=X u:=by
 intro j u a;apply h.cell_of;grind
def xn(a b:M):([decide (a.path=b.path),decide (a.start=b.start),decide (a.sectors=b.sectors),decide (a.size=b.size),decide ((a.sum:H)=(b.sum:H))].all id)=decide (a=b):=by
 obtain⟨m,l,k,j,i⟩:=a;obtain⟨h,g,f,e,d⟩:=b;grind
def XK{m:M}:IW ⟨1,m⟩=if Dq m then X (Et m)else Aa:=by rfl
def Uy{m:M}:IW ⟨2,m⟩=if Cy m.path=0/\m=bare m.path then X m.path else Aa:=by rfl
def data3{k:H}{m:M}(h1:k≠1)(h2:k≠2):IW ⟨k,m⟩=Aa:=by unfold IW;grind
def kr{n:Nt}{s:Bg}(h:IW n=X s):CH n/\Hg n=s:=by
 refine⟨?_,?_⟩
 .unfold CH;grind
 .unfold Hg;grind
def kq{n:Nt}(h:IW n=Aa):¬CH n:=by unfold CH;grind
def Sb(n:Nt)(v:Ah):Prop:=∃s,v=.tuple #[Bj s,.bool (decide (CH n))]/\(CH n->s=Hg n)
def oq{n:Nt}{s:Bg}(h:IW n=X s):Sb n (.tuple #[Bj s,.bool Af]):=⟨s,by rw[AM (kr h).1],fun _=>(kr h).2.symm⟩
def VR{n:Nt}(s:Bg)(h:IW n=Aa):Sb n (.tuple #[Bj s,.bool Aj]):=⟨s,by rw[AN (kq h)],fun q=>absurd q (kq h)⟩
def sO(n:Nt)(G:n.mem.Ok)(w:Ad):Bn prog 112 [.agg n.cells.toArray] w fun v w'=>Sb n v/\Bf w w':=by
 obtain⟨l,m⟩:=n;have i:m.Ok:=G;refine Bw func112 Z ntmps112 Be Z ?_;refine(O 2) ?_;refine DB Z Z Z ?_;rintro nb t E d f;refine(O 7) ?_;replace d:Bk t nb 116 (Nt.cells ⟨l,m⟩):=d;have p:=d.part (o:=1) (l2:=m.cells) Z;refine(O 8)<|Zi (fun C=>?_) fun C=>?_
 .have k:l=1:=C;subst k;refine(O 3∘Zv (Do m.cells p)∘Zc (kB m i t)) ?_;rintro _ D⟨rfl,a⟩;refine(O 14∘BH) ?_;refine⟨?_,f.trans a⟩;by_cases h:Dq m
  .rw[ky h];exact oq (by rw[XK,Ai h])
  .rw[kw h];exact VR _ (by rw[XK,Ag h])
 .have k:¬l=1:=C;refine(O 5)<|Zi (fun B=>?_) fun B=>?_
  .have j:l=2:=B;subst j;refine(O 8) ?_;by_cases x:Cy m.path=0
   .have r:=OM m.path i.path;rw[x]at r;refine(Yr 13 (fun w'=>Bf w w'/\Bk w' nb 116 (Nt.cells ⟨2,m⟩)) ⟨f.trans (Bf.drew _),d.drew⟩) fun g=>(Gv [0,1]∘Yc 2 (r t.drew)) ?_;rintro _ D⟨rfl,a⟩;refine⟨⟨g.1.trans a,g.2.ext a⟩,fun g=>?_⟩;refine(Gv [3,4]∘Zga 29 (e:=Z)∘Gv [5]∘Yw 6 (he:=by exact fun _ A=>Do m.cells (A.2.part (o:=1) (l2:=m.cells) Z))∘Gv [7,8]∘Yw 9 (he:=by exact fun _ _=>Tx underlying60 Be Be Z Z (.cons Bc underlying9 Z Z Z (QE underlying9) (.cons Bc underlying3 Z Z Z (Lu underlying3) (.cons Bc underlying3 Z Z Z (Lu underlying3) (.cons Bc underlying3 Z Z Z (Lu underlying3) (.cons Bc underlying58 Z Z Z (Lu underlying58) .nil))))) Z)∘Gv [10,11,12]∘Yd∘BH) ?_;refine⟨?_,g.1⟩;have e:=xn m (bare m.path);by_cases h:m=bare m.path
    .rw[AM h]at e;refine(Ar (Sb ⟨2,m⟩) ?_).mpr (oq (s:=m.path) (by rw[Uy,Ai ⟨x,h⟩]));exact Ar (fun q=>Value.tuple #[Bj m.path,.bool q]) e
    .rw[AN h]at e;refine(Ar (Sb ⟨2,m⟩) ?_).mpr (VR m.path (by rw[Uy,Ag (fun q=>h q.2)]));exact Ar (fun q=>Value.tuple #[Bj m.path,.bool q]) e
   .have y:Cy m.path=140:=(Sh _).resolve_left x;have r:=OM m.path i.path;rw[y]at r;refine(Yr 13 (fun w'=>Bf w w'/\Bk w' nb 116 (Nt.cells ⟨2,m⟩)) ⟨f.trans (Bf.drew _),d.drew⟩) fun g=>(Gv [0,1]∘Yc 2 (r t.drew)) ?_;rintro _ D⟨rfl,a⟩;refine⟨⟨g.1.trans a,g.2.ext a⟩,fun g=>?_⟩;refine(Gv [3,4]∘Nv 29∘Gv [5,6,7,8,9,10,11,12]∘Yd∘BH) ?_;exact⟨VR m.path (by rw[Uy,Ag (fun q=>x q.1)]),g.1⟩
  .have j:¬l=2:=B;refine(O 7∘BH) ?_;exact⟨VR [] (data3 k j),f⟩
end

section
attribute [local irreducible] OW KW QW EX GW NV
open Rec Pth Dsk Wal
def xW{g i:H}{d:Bg}:FJ ⟨1,g,i,d⟩=if(Ex (Aim d+1) d []).2=0/\Aim (Ex (Aim d+1) d []).1=1 then X ⟨1,(Ex (Aim d+1) d []).1.getD 0 (bare [])⟩else Aa:=by
 rfl
def xX{g i:H}{d:Bg}:FJ ⟨2,g,i,d⟩=if Cy d=0 then X ⟨2,bare d⟩else Aa:=by
 rfl
def xY{k:Y}{g i:H}{d:Bg}(h1:k≠1)(h2:k≠2):FJ ⟨k,g,i,d⟩=Aa:=by
 unfold FJ;grind
def yb(x:R)(hk:x.kind<=255)(hd:Aim x.data<=1000)(w:Ad):Bn prog 78 [.agg x.cells.toArray] w fun v w'=>(∃n:Nt,v=.tuple #[.agg n.cells.toArray,.bool (FJ x).isSome]/\∀n',FJ x=X n'->n'=n)/\Bf w w':=by
 obtain⟨r,g,B,d⟩:=x;have a5:r<=255:=hk;have a6:Aim d<=1000:=hd;have T:∀n:Nt,FJ ⟨r,g,B,d⟩=X n->∃n0:Nt,Value.tuple #[.agg n.cells.toArray,.bool Af]=.tuple #[.agg n0.cells.toArray,.bool (FJ ⟨r,g,B,d⟩).isSome]/\∀n',FJ ⟨r,g,B,d⟩=X n'->n'=n0:=fun n h=>⟨n,by rw[h];rfl,fun n' h'=>by grind⟩;have no:FJ ⟨r,g,B,d⟩=Aa->∃n0:Nt,Value.tuple #[.agg (Lg (Nt.cells ⟨0,bare []⟩)),.bool Aj]=.tuple #[.agg n0.cells.toArray,.bool (FJ ⟨r,g,B,d⟩).isSome]/\∀n',FJ ⟨r,g,B,d⟩=X n'->n'=n0:=fun h=>⟨⟨0,bare []⟩,by rw[h];rfl,fun n' h'=>by grind⟩;refine Bw func78 Z ntmps78 Be Z ?_;refine(O 2) ?_;refine DB Z Z Z ?_;rintro xb w1 a4 P ab;replace P:Bk w1 xb 144 (R.cells ⟨r,g,B,d⟩):=P;refine(Zn) ?_;rintro rb w2 a3 G W;refine(O 5) ?_;have aj:=P.ext W;refine(O 3∘Zn) ?_;rintro nb w3 a2 ao D;refine(Zs ao (hlt:=Bq _)) ?_;rintro w4 ai L;refine(O 5) ?_;have x2:=ab.trans W;have x3:=x2.trans D;have x4:Bf w w4:=Bv x3 L x3.size (fun k hk=>by simp at hk;have:=x2.size;omega);have a1:=(aj.ext D).mo L (by simp;have:=aj.lt;omega);have E:=(G.ext D).mo L (by simp;have:=G.lt;omega);have af:nb≠rb:=by have:=G.lt;omega
 have z1:=ab.size;have z2:=x2.size;refine(O 8)<|Zi (fun h1=>?_) fun h1=>?_
 .have S:r=1:=J;subst S;refine(O 4∘Zc (kC d J w4)) ?_;rintro _ w5⟨vs,rfl,C,f⟩;refine(O 8) ?_;have e1:=xW (g:=g) (i:=B) (d:=d);have q:=E.ext f;have I:=ai.ext f;have t:=x4.trans f;generalize(Ex (Aim d+1) d []).2=er at e1;generalize(Ex (Aim d+1) d []).1=l at C e1;obtain⟨A,c,rfl,_,al⟩:=C.slice;refine(O 4)<|Zd 24 (fun q1=>?_) fun q1=>?_
  .refine(O 9∘Zs q (hlt:=Bq _)) ?_;rintro y e a;refine(O 2∘Du e) ?_;exact⟨no Bh,Bv t a t.size (fun k hk=>by simp at hk;omega)⟩
  .refine(O 5)<|Zi (fun q2=>?_) fun q2=>?_
   .refine(O 3∘Zs q (hlt:=Bq _)) ?_;rintro y e a;refine(O 2∘Du e) ?_;exact⟨no Bh,Bv t a t.size (fun k hk=>by simp at hk;omega)⟩
   .have a0:Aim l=1:=J;obtain⟨m,rfl⟩:=List.length_eq_one_iff.1 a0;obtain⟨b,o,rfl,_,N⟩:=Sl.flat (cells:=M.cells) al (c:=5) (fun _=>rfl) Bl (Nat.zero_lt_succ _:0<Aim [m]);refine(O 4∘Zv (Do m.cells N)∘O 1∘Zs I (hlt:=Bq _)) ?_;rintro y p a;refine(O 4) ?_;replace p:Bk y nb 116 (Nt.cells ⟨1,m⟩):=p;have e:=q.mo a (by simp;exact af.symm);have V:Bf w y:=Bv t a t.size (fun k hk=>by simp at hk;omega);refine(Zv (Cf p)∘Zs e (hlt:=Bq _)) ?_;rintro w7 j K;refine(O 2) ?_;replace j:Bk w7 rb 116 (Nt.cells ⟨1,m⟩):=j;refine(Du j) ?_;exact⟨T _ Bh,Bv V K V.size (fun k hk=>by simp at hk;omega)⟩
 .have S:¬r=1:=J;refine(O 5)<|Zi (fun h2=>?_) fun h2=>?_
  .have Q:r=2:=J;subst Q;have e2:=xX (g:=g) (i:=B) (d:=d);have a7:=Sh d;refine(O 5∘Zc (OM d J w4)) ?_;rintro _ w5⟨rfl,f⟩;refine(O 2) ?_;have q:=E.ext f;have I:=ai.ext f;have a8:=a1.ext f;have t:=x4.trans f;refine Zi (fun q1=>?_) fun q1=>?_
   .refine(O 3∘Zs q (hlt:=Bq _)) ?_;rintro y e a;refine(O 2∘Du e) ?_;exact⟨no Bh,Bv t a t.size (fun k hk=>by simp at hk;omega)⟩
   .refine(O 6∘Zt I) ?_;rintro y p a;refine(O 4) ?_;replace p:Bk y nb 116 (Nt.cells ⟨2,bare d⟩):=p;have e:=q.mo a (by simp;exact af.symm);have V:Bf w y:=Bv t a t.size (fun k hk=>by simp at hk;omega);refine(Zv (Cf p)∘Zs e (hlt:=Bq _)) ?_;rintro w7 j K;refine(O 2) ?_;replace j:Bk w7 rb 116 (Nt.cells ⟨2,bare d⟩):=j;refine(Du j) ?_;exact⟨T _ Bh,Bv V K V.size (fun k hk=>by simp at hk;omega)⟩
  .have Q:¬r=2:=J;refine(O 3∘Zs E (hlt:=Bq _)) ?_;rintro y e a;refine(O 2∘Du e) ?_;exact⟨no (xY S Q),Bv x4 a x4.size (fun k hk=>by simp at hk;omega)⟩
def mj(gen:H)(w:Ad):Bn prog 76 [U gen] w fun v w'=>v=.bool (decide (¬JC gen))/\w=w':=by
 refine Bw func76 Z ntmps76 (by rfl) Z ?_;refine(O 9)<|Zd 5 (fun a=>?_) fun a=>?_
 .refine(O 5∘Bu) ?_;refine⟨Ar Value.bool (decide_eq_decide.2 ?_),Z⟩;unfold JC;omega
 .refine(O 5∘Bu) ?_;refine⟨Ar Value.bool (AN ?_).symm,Z⟩;unfold JC;omega
def xV{n:Nt}(h:CH n):n.kind=1∨n.kind=2:=(SK h).2
def qV{D:Dv}(hD:D.Ok){k:Y}(bc:Sm D k)(hk:k<=900000000)(B b:Y)(gen at_:H)(g0:-9223372036854775808<=gen)(g1:gen<=9223372036854775807)(a0:-9223372036854775808<=at_)(a1:at_<=9223372036854775807)(l:Ae Nt)(hl:Aim l<=140737488355328)(bl:∀n∈l,n.mem.Ok)(A:Av AC)(c C:Y)(w:Ad)(h:Cz w B b D)(hs:Sl w C A (CC l)):
 Bn prog 87 [.pointer (X ⟨b,0,Aa⟩),U gen,U at_,.slice A (Aim l) c] w fun v w'=>v=.tuple #[U (FC D gen at_ l).2.1,U (((FC D gen at_ l).2.2:Y):H)]/\Cz w' B b (FC D gen at_ l).1/\Tm w w' B Cs:=by
 have b6:=hD.cap
 have I:∀w',Bf w w'->(Ii gen at_ (Aim l)∨∃n∈l,¬CH n)->(Value.tuple #[U 0,U 210]=.tuple #[U (FC D gen at_ l).2.1,U (((FC D gen at_ l).2.2:Y):H)]/\Cz w' B b (FC D gen at_ l).1/\Tm w w' B Cs):=fun w' N q=>by
  rw[qU q];exact⟨Z,h.ext N,Tm.Age N _ _⟩
 refine Bw func87 Z ntmps87 (by rfl) Z ?_;refine(O 9∘Zc (Ij h hD)) ?_;rintro _ _⟨rfl,rfl⟩;refine(O 2)<|Zi (fun h0=>?_) fun h0=>?_
 .omega
 .refine(O 5∘Zc (mj gen w)) ?_;rintro _ _⟨rfl,rfl⟩;refine(O 2)<|Zd 29 (fun b0=>?_) fun b0=>?_
  .refine(O 26∘BH) ?_;exact I _ (Bf.refl _) (.inl (by unfold JC at b0;unfold Ii;omega))
  .unfold JC at b0;refine(O 4)<|Zd 33 (fun b1=>?_) fun b1=>?_
   .refine(O 22∘BH) ?_;exact I _ (Bf.refl _) (.inl (by unfold Ii;omega))
   .refine(O 4)<|Zd 37 (fun b2=>?_) fun b2=>?_
    .refine(O 18∘BH) ?_;exact I _ (Bf.refl _) (.inl (by unfold Ii;omega))
    .refine(O 5)<|Zd 42 (fun b3=>?_) fun b3=>?_
     .refine(O 13∘BH) ?_;exact I _ (Bf.refl _) (.inl (by unfold Ii;omega))
     .refine(O 7)<|Zi (fun b4=>?_) fun b4=>?_
      .refine(O 5∘BH) ?_;exact I _ (Bf.refl _) (.inl (by unfold Ii;omega))
      .obtain⟨a,rfl⟩:=Fq (show 0<=at_ by omega);obtain⟨g,rfl⟩:=Fq (show 0<=gen by omega);have nb:¬Ii (g:H) (a:H) (Aim l):=by unfold Ii;omega
       refine(O 12)<|Lc (fun((v,wr):Ah×Ad)=>((∀n∈l,CH n)/\Bp wr w.heap.size 9 1 v (Aim l) ((FY g a l).map Bj)/\Bf w wr,[(0,.pointer (X ⟨b,0,Aa⟩)),(1,U g),(2,U a),(3,.slice A (Aim l) c),(10,v)],wr)) ?_ ?_
       .refine(O 1)<|Lo (fun((i,v,wr):Y×Ah×Ad)=>(i<=Aim l/\(∀n∈l.take i,CH n)/\Bp wr w.heap.size 9 1 v i ((FY g a (l.take i)).map Bj)/\Bf w wr,[(0,.pointer (X ⟨b,0,Aa⟩)),(1,U g),(2,U a),(3,.slice A (Aim l) c),(10,v),(49,.slice A (Aim l) c),(50,U ((Aim l:Y):H)),(51,U i)],wr,Aim l-i)) (0,(.slice Aa 0 0),w) ?_ ?_
        .exact⟨J,Bl,Bp.nil _ _ _ _,Bf.refl _⟩
        .rintro⟨i,v,wr⟩⟨hi,y,p,N⟩;refine(O 5)<|Zi (fun t=>?_) fun t=>?_
         .obtain⟨bb,o,rfl,_,m⟩:=(hs.ext N).flat (c:=6) (fun _=>rfl) Bc t;have al:l.take (i+1)=l.take i++[l[i]]:=(CR t).symm;have a3:=bl l[i] (BM t);have a6:l[i]∈l:=BM t;have a5:Aim (l.take i)=i:=by rw[BY];omega
          have a2:FY g a (l.take (i+1))=FY g a (l.take i)++[text (l[i]).kind.toNat g (a+i) (Hg l[i])]:=by rw[al,ma,a5]
          generalize l[i]=n at a3 a6 m al a2;refine(O 7∘Zv (Do n.cells m)∘Zn) ?_;rintro pb w1 a7 bi G;refine(O 1∘Zs bi (hlt:=Bq _)) ?_;rintro w2 Q a4;refine(O 3) ?_;replace Q:Bk w2 pb 116 n.cells:=Q;have x2:Bf w w2:=Bv (N.trans G) a4 (N.trans G).size (fun k hk=>by simp at hk;have:=N.size;omega);refine(Zv (Cf Q)∘Zc (sO n a3 w2)) ?_;rintro _ w3⟨⟨s,rfl,bf⟩,x⟩;refine(O 12)<|Zi (fun e=>?_) fun e=>?_
          .refine(O 5∘BH) ?_;exact I _ (x2.trans x) (.inr ⟨n,a6,e⟩)
          .have e:CH n:=Dm.1 e;obtain rfl:=bf e;have b9:=xV e;have b8:=(SK e).1;have bh:=Q.ext x;have x3:=x2.trans x;have d:=((p.ext G).mo a4 (fun k hk=>by simp;have:=p.lt k hk;omega)).ext x;obtain⟨kd,W⟩:=Fq (show 0<=n.kind by omega);have ca:1<=kd/\kd<=255:=J;have bx:Bk w3 pb 116 (U (kd:H)::n.mem.cells):=by rw[<-W];exact bh
           have e1:EH kd (g:H) ((a+i:Y):H) (Hg n)=(text n.kind.toNat g (a+i) (Hg n),0):=by
            unfold EH;rw[Ag (by unfold Cn;omega),W];rfl
           have ce:=UH kd J (g:H) ((a+i:Y):H) (Hg n) J w3;rw[e1]at ce;refine(O 11∘Zc ce) ?_;rintro _ w4⟨rfl,ai⟩;refine(O 9∘GZ (x3.trans ai) (d.ext ai)) ?_;rintro _ v5 w5 bj b7 _ _;refine(O 7)<|Lb ((i+1),v5,w5) ?_;grind
         .obtain rfl:i=Aim l:=J;rw[DY]at y p;refine(O 1∘Lm (v,wr)) ?_;grind
       .rintro⟨v,wr⟩⟨y,p,N⟩;have b5:Aim l<=19:=J;have cb:g<=4611686018427387904:=J
        have ec:EH 3 (g:H) ((a+Aim l:Y):H) [BS (Aim l)]=(text 3 g (a+Aim l) [BS (Aim l)],0):=by
         unfold EH;rw[Ag (by unfold Cn;grind)];rfl
        have el:FC D (g:H) (a:H) l=(let r:=writes D (10+a) (txs g a l);if r.2=0 then(if r.1.sync.2=0 then(r.1.sync.1,(a:H)+Aim l+1,0)else(r.1.sync.1,0,r.1.sync.2))else(r.1,0,r.2)):=dH nb y;have V:=bu (g:=g) (i:=a) y;have bm:=Ji g a l;have a8:FY g a l++[text 3 g (a+Aim l) [BS (Aim l)]]=txs g a l:=rfl;generalize txs g a l=T at el V bm a8;refine(O 10) ?_;refine Li 1 Z Z underlying23 CD Z Z Z Z (by rfl) Bc ?_;rintro sb w1 a7 bq G;refine(Zv (DZ (QV bq J))) ?_;have ce:=UH 3 J (g:H) ((a+Aim l:Y):H) [BS (Aim l)] Bl w1;rw[ec]at ce;refine(Zc ce) ?_;rintro _ w2⟨rfl,aj⟩;refine(O 11) ?_;have x2:=(N.trans G).trans aj;have es:(FY g a l).map Bj++[Bj (text 3 g (a+Aim l) [BS (Aim l)])]=T.map Bj:=by rw[<-a8,DX];rfl
        refine(GZ x2 ((p.ext G).ext aj)) ?_;rintro _ v3 w3 d x _ _;replace d:Bp w3 w.heap.size 9 1 v3 (Aim l+1) ((FY g a l).map Bj++[Bj (text 3 g (a+Aim l) [BS (Aim l)])]):=d;rw[es]at d;obtain⟨A3,c3,rfl,cc,_⟩:=d.slice;refine(O 4)<|Lo (fun((i,E,wr):Y×Dv×Ad)=>(i<=Aim l+1/\E.Ok/\Sm E (k+i)/\writes E (10+a+i) (T.drop i)=writes D (10+a) T/\Cz wr B b E/\Tm w wr B Cs/\Bp wr w.heap.size 9 1 (.slice A3 (Aim l+1) c3) (Aim l+1) (T.map Bj),[(0,.pointer (X ⟨b,0,Aa⟩)),(2,U a),(3,.slice A (Aim l) c),(97,.slice A3 (Aim l+1) c3),(98,U (((Aim l+1):Y):H)),(99,U i)],wr,Aim l+1-i)) (0,D,w3) ?_ ?_
        .exact⟨J,hD,bc,Z,h.ext x,Tm.Age x _ _,d⟩
        .rintro⟨i,E,wr⟩⟨hi,hE,af,S,ab,P,K⟩;refine(O 5)<|Zi (fun t=>?_) fun t=>?_
         .have L:i<Aim T:=J;have bn:T.drop i=T[i]::T.drop (i+1):=Ds L;have bs:=V T[i] (BM L);have a9:(T.map Bj)[i]? =X (Bj T[i]):=by rw[DP,BN L];rfl
          rw[bn,Ts]at S;generalize T[i]=s at S bs a9;obtain⟨A4,c4,e4,_,ao⟩:=K.slice;cases e4;obtain⟨bb,o,rfl,_,m⟩:=ao.at_ Bh;refine(O 7∘Zv (BZ (m i _ a9))∘O 11) ?_;have cw:=Tq ab hE (af.small J) ((10+a+i:Y):H) J J s J;refine(Zc cw) ?_;rintro _ w5⟨rfl,f,j⟩;refine(O 7)<|Zi (fun he=>?_) fun he=>?_
          .rw[Ag J]at S;refine(O 6∘BH) ?_;rw[el,<-S];simp only;rw[Ag J];exact⟨Z,f,P.trans j⟩
          .rw[Ai J]at S;refine(O 6)<|Lb ((i+1),((E.write ((10+a+i:Y):H) s).1),w5) ?_;exact⟨J,NZ hE _ _,PM af _ _,S,f,P.trans j,j.own K Bc⟩
         .obtain rfl:i=Aim l+1:=J;rw[KX J]at S;have ba:writes D (10+a) T=(E,0):=S.symm;rw[ba]at el;simp only[if_true]at el;refine(O 5∘Zc (Rs ab hE (af.small J))) ?_;rintro _ w5⟨rfl,f,j⟩;refine(O 7)<|Zi (fun he=>?_) fun he=>?_
          .rw[Ag J]at el;refine(O 6∘BH) ?_;rw[el];exact⟨Z,f,P.trans j⟩
          .rw[Ai J]at el;refine(O 11∘BH) ?_;rw[el];exact⟨Z,f,P.trans j⟩
end
namespace Wal
open Rec Pth Dsk
def EJ(gen:H)(rd:Y->By)(m:Y):Y->Y->Ae Nt->Y
 |0,_,_=>0
 |f+1,i,op=>
  if i<m then
   let x:=CB (rd i)
   if x.2≠0∨x.1.gen≠gen∨x.1.index≠i then 1
   else if x.1.kind=3 then(if op=[]∨x.1.data≠[BS (Aim op)]then 1 else EJ gen rd m f (i+1) []+1)
   else match FJ x.1 with
    |some n=>EJ gen rd m f (i+1) (op++[n])+1
    |none=>1
  else 0
def KH(D:Dv)(gen:H):Y:=if JC gen then 0 else if D.dead then 0 else EJ gen (fun i=>sec D.now (10+i)) (Hf D.now) 21 0 []
def FZ(D:Dv)(gen:H):Dv:={ D with calls:=D.calls+KH D gen }
def ae(gen:H)(rd:Y->By)(m:Y):∀(f i:Y) (op:Ae Nt),EJ gen rd m f i op<=f
 |0,_,_=>Bq _
 |f+1,i,op=>by
  have h1:=ae gen rd m f (i+1) [];rw[EJ];split
  .simp only;split
   .omega
   .split
    .grind
    .split
     .rename_i n _;have h2:=ae gen rd m f (i+1) (op++[n]);omega
     .omega
  .omega
def zC(D:Dv)(gen:H):KH D gen<=21:=by
 unfold KH;split
 .omega
 .split
  .omega
  .exact ae _ _ _ _ _ _
def zS{D:Dv}(h:D.Ok)(gen:H):(FZ D gen).Ok:=⟨h.cap,h.kept,h.now,h.keptM,h.nowM,h.pend⟩
def zT{D:Dv}{k:Y}(h:Sm D k)(gen:H):Sm (FZ D gen) (k+21):=
 ⟨by have h1:=h.calls;have h2:=zC D gen;show D.calls+KH D gen<=_;omega,by have h1:=h.pend;show Aim D.pend<=_;omega,h.at_,h.keep⟩
section
variable{gen:H}{rd:Y->By}{m f i:Y}{op:Ae Nt}{out:Ae (Ae Nt)}{b:Y}{x:R}{e:Y}
def rep_0(h:¬i<m):CZ gen rd m (f+1) i op out b=(out,b)/\EJ gen rd m (f+1) i op=0:=by
 rw[CZ,EJ,Ag h,Ag h];simp
def rep_1(h:i<m)(hx:CB (rd i)=(x,e))(h2:e≠0∨x.gen≠gen∨x.index≠i):CZ gen rd m (f+1) i op out b=(out,b)/\EJ gen rd m (f+1) i op=1:=by
 rw[CZ,EJ,Ai h,Ai h,hx];grind
def rep_2(h:i<m)(hx:CB (rd i)=(x,e))(h2:¬(e≠0∨x.gen≠gen∨x.index≠i))(d:x.kind=3)(a:op=[]∨x.data≠[BS (Aim op)]):CZ gen rd m (f+1) i op out b=(out,b)/\EJ gen rd m (f+1) i op=1:=by
 rw[CZ,EJ,Ai h,Ai h,hx];grind
def rep_3(h:i<m)(hx:CB (rd i)=(x,e))(h2:¬(e≠0∨x.gen≠gen∨x.index≠i))(d:x.kind=3)(a:¬(op=[]∨x.data≠[BS (Aim op)])):
 CZ gen rd m (f+1) i op out b=CZ gen rd m f (i+1) [] (out++[op]) (i+1)/\EJ gen rd m (f+1) i op=EJ gen rd m f (i+1) []+1:=by
 rw[CZ,EJ,Ai h,Ai h,hx];grind
def rep_4(h:i<m)(hx:CB (rd i)=(x,e))(h2:¬(e≠0∨x.gen≠gen∨x.index≠i))(d:¬x.kind=3)(a:FJ x=Aa):CZ gen rd m (f+1) i op out b=(out,b)/\EJ gen rd m (f+1) i op=1:=by
 rw[CZ,EJ,Ai h,Ai h,hx];grind
def rep_5{n:Nt}(h:i<m)(hx:CB (rd i)=(x,e))(h2:¬(e≠0∨x.gen≠gen∨x.index≠i))(d:¬x.kind=3)(a:FJ x=X n):
 CZ gen rd m (f+1) i op out b=CZ gen rd m f (i+1) (op++[n]) out b/\EJ gen rd m (f+1) i op=EJ gen rd m f (i+1) (op++[n])+1:=by
 rw[CZ,EJ,Ai h,Ai h,hx];grind
end
end Wal
section
attribute [local irreducible] OW KW QW EX GW NV
open Rec Pth Dsk Wal
abbrev Txl:=Ae (Ae Nt)
def HL(w:Ad)(B:Y):Bm->Ae (Ae Nt)->Prop
 |[],[]=>True
 |v::vs,l::ls=>Bp w B 116 6 v (Aim l) (CC l)/\HL w B vs ls
 |_,_=>False
def HL.len{w:Ad}{B:Y}:∀{vs:Bm} {ls:Ae (Ae Nt)},HL w B vs ls->Aim vs=Aim ls
 |[],[],_=>rfl
 |v::vs,l::ls,⟨_,h2⟩=>by simp[HL.len h2]
 |[],_::_,h=>h.elim
 |_::_,[],h=>h.elim
def HL.snoc{w:Ad}{B:Y}:∀{vs:Bm} {ls:Ae (Ae Nt)} {v:Ah} {l:Ae Nt},HL w B vs ls->Bp w B 116 6 v (Aim l) (CC l)->HL w B (vs++[v]) (ls++[l])
 |[],[],_,_,_,h=>⟨h,AB⟩
 |c::cs,v::vs,_,_,⟨h1,h2⟩,h=>⟨h1,HL.snoc h2 h⟩
 |[],_::_,_,_,h,_=>h.elim
 |_::_,[],_,_,h,_=>h.elim
def HL.mo{w w':Ad}{B:Y}{S:Bi}(hm:Mo w w' S):∀{vs:Bm} {ls:Ae (Ae Nt)},(∀v∈vs,∀k,v.ownBlock=X k->k∉S)->HL w B vs ls->HL w' B vs ls
 |[],[],_,h=>h
 |v::vs,l::ls,hS,⟨h1,h2⟩=>⟨h1.mo hm (hS v Bl),HL.mo hm (fun x hx=>hS x Bh) h2⟩
 |[],_::_,_,h=>h.elim
 |_::_,[],_,h=>h.elim
def HL.ext{w w':Ad}{B:Y}(hx:Bf w w'):∀{vs:Bm} {ls:Ae (Ae Nt)},HL w B vs ls->HL w' B vs ls
 |[],[],h=>h
 |v::vs,l::ls,⟨h1,h2⟩=>⟨h1.ext hx,HL.ext hx h2⟩
 |[],_::_,h=>h.elim
 |_::_,[],h=>h.elim
def HL.tm{w w':Ad}{B C:Y}{p:Ay->Aw}(h:Tm w w' C p)(hp:p 116=Aj):∀{vs:Bm} {ls:Ae (Ae Nt)},HL w B vs ls->HL w' B vs ls
 |[],[],h=>h
 |v::vs,l::ls,⟨h1,h2⟩=>⟨h.own h1 hp,HL.tm h hp h2⟩
 |[],_::_,h=>h.elim
 |_::_,[],h=>h.elim
def HL.lt{w:Ad}{B:Y}:∀{vs:Bm} {ls:Ae (Ae Nt)},HL w B vs ls->∀v∈vs,∀k,v.ownBlock=X k->B<=k/\k<w.heap.size/\∃l,Bk w k 116 l
 |v::vs,l::ls,⟨h1,h2⟩,u,hu,k,hk=>by
  rcases List.mem_cons.1 hu with rfl|hu
  .exact⟨(h1.lt k hk).1,(h1.lt k hk).2,(h1.blkT k hk).2⟩
  .exact HL.lt h2 u hu k hk
 |[],_::_,h,_,_,_,_=>h.elim
 |_::_,[],h,_,_,_,_=>h.elim
 |[],[],_,u,hu,_,_=>by grind
def Cz.tm{w w':Ad}{B b C:Y}{D:Dv}{p:Ay->Aw}(h:Cz w B b D)(t:Tm w w' C p)(p1:p 85=Aj)(p2:p 5=Aj)(l:p 137=Aj)(k:p 4=Aj)(j:p 3=Aj)(i:p 9=Aj):Cz w' B b D:=by
 obtain⟨g,f,e,d,a,y,x,v,r,q,o,n,m⟩:=h;exact⟨g,f,e,d,a,y,t.bk x p1,t.own v p2,t.own r p2,q,t.own o l,n.tm t j i,t.own m k⟩
def sT(s:Bg)(a:Aim s<=512):(CB s).1.kind<=255/\(CB s).1.data.length<=512:=by
 unfold CB;split
 .refine⟨?_,?_⟩
  .have:=(s.getD 4 0).toNat_lt;show(s.getD 4 0).toNat<=255;omega
  .show Aim ((s.drop 19).take _)<=512;grind
 .exact⟨Bc,Bc⟩
def Abs(s:Bg)(i:Y):Aim (sec s i)<=512:=by unfold sec;grind
def vR(s:Bg)(i:Y):i<Hf s↔i<20/\10+i<Aim s/512:=by unfold Hf;omega
def Wj(w:Ad)(B:Y)(r:Ae (Ae Nt)×Y)(e:Y)(v:Ah):Prop:=
 ∃vt vs,v=.tuple #[vt,U (r.2:H),U (e:H)]/\Bp w B 93 1 vt (Aim r.1) vs/\HL w B vs r.1
def gT(w:Ad)(B e:Y):Wj w B ([],0) e (.tuple #[.slice Aa 0 0,U 0,U (e:H)]):=⟨_,[],Z,Bp.nil _ _ _ _,AB⟩
def zR{D:Dv}(hD:D.Ok){k:Y}(a1:Sm D k)(hk:k<=900000000)(B b:Y)(gen:H)(w:Ad)(h:Cz w B b D):
 Bn prog 41 [.pointer (X ⟨b,0,Aa⟩),U gen] w fun v w'=>Wj w' w.heap.size (JP D gen).1 (JP D gen).2 v/\Cz w' B b (FZ D gen)/\Tm w w' B Cs:=by
 have da:=hD.cap;have E:KH D gen=0->FZ D gen=D:=fun e=>by unfold FZ;simp_all
 refine Bw func41 Z ntmps41 (by rfl) Z ?_;refine(O 11∘Zc (Ij h hD)) ?_;rintro _ _⟨rfl,rfl⟩;refine(O 2)<|Zi (fun h0=>?_) fun h0=>?_
 .omega
 .refine(O 5∘Zc (mj gen w)) ?_;rintro _ _⟨rfl,rfl⟩;refine(O 2)<|Zi (fun hg=>?_) fun hg=>?_
  .have hb:JC gen:=Dm.1 hg;have e1:JP D gen=(([],0),210):=by unfold JP;rw[Ai hb]
   have e2:KH D gen=0:=by unfold KH;rw[Ai hb]
   refine(O 6∘CS) ?_;rw[e1,E e2];exact⟨gT _ _ 210,h,Tm.refl _ _ _⟩
  .have hb:¬JC gen:=fun q=>hg (not_not_intro q);refine(O 5∘Zc (Uz h hD)) ?_;rintro _ _⟨rfl,rfl⟩;refine(O 1) ?_;refine HE Z (fun hd=>?_) (fun hd=>?_)
   .have e1:JP D gen=(([],0),190):=by unfold JP;rw[Ag hb,hd];rfl
    have e2:KH D gen=0:=by unfold KH;rw[Ag hb,hd];rfl
    refine(O 6∘CS) ?_;rw[e1,E e2];exact⟨gT _ _ 190,h,Tm.refl _ _ _⟩
   .have e1:JP D gen=(CZ gen (fun i=>sec D.now (10+i)) (Hf D.now) 21 0 [] [] 0,0):=by unfold JP;rw[Ag hb,hd];rfl
    have e2:KH D gen=EJ gen (fun i=>sec D.now (10+i)) (Hf D.now) 21 0 []:=by unfold KH;rw[Ag hb,hd];rfl
    generalize hM:Hf D.now=m at e1 e2;have cl:=fun i=>vR D.now i;rw[hM]at cl;have c7:m<=20:=by rw[<-hM];unfold Hf;omega
    generalize hR:(fun i=>sec D.now (10+i))=rd at e1 e2;have cf:∀i,sec D.now (10+i)=rd i:=fun i=>by grind
    have S:∀(wr:Ad) (a:Ae (Ae Nt)) (p j:Y) (G:Ah) (C:Bm),CZ gen rd m 21 0 [] [] 0=(a,p)->EJ gen rd m 21 0 []=j->Cz wr B b { D with calls:=D.calls+j }->Bp wr w.heap.size 93 1 G (Aim a) C->HL wr w.heap.size C a->Tm w wr B Cs->(Wj wr w.heap.size (JP D gen).1 (JP D gen).2 (.tuple #[G,U (p:H),U 0])/\Cz wr B b (FZ D gen)/\Tm w wr B Cs):=by
     intro wr a p j G C h1 h2 h3 h4 h5 h6;rw[e1,h1];refine⟨⟨G,C,Z,h4,h5⟩,?_,h6⟩;have e:FZ D gen={ D with calls:=D.calls+j }:=by unfold FZ;rw[e2,h2]
     rw[e];exact h3
    refine(O 21)<|Lo (fun((i,o,a,p,vo,G,wr):Y×(Ae Nt)×Txl×Y×Ah×Ah×Ad)=>((i<=20/\p<=20/\Aim o<=i/\Aim a<=i/\CZ gen rd m 21 0 [] [] 0=CZ gen rd m (21-i) i o a p/\EJ gen rd m 21 0 []=EJ gen rd m (21-i) i o+i/\Cz wr B b { D with calls:=D.calls+i }/\Bp wr w.heap.size 116 6 vo (Aim o) (CC o)/\Tm w wr B Cs/\∃C,Bp wr w.heap.size 93 1 G (Aim a) C/\HL wr w.heap.size C a/\(∀k,vo.ownBlock=X k->∀v∈C,v.ownBlock≠X k)),[(0,.pointer (X ⟨b,0,Aa⟩)),(1,U (gen:H)),(7,G),(8,vo),(9,U p),(10,U i)],wr,21-i)) (0,([]),([]),0,(.slice Aa 0 0),(.slice Aa 0 0),w) ?_ ?_
    .exact⟨J,J,Bl,Bl,Z,Z,h,Bp.nil _ _ _ _,Tm.refl _ _ _,[],Bp.nil _ _ _ _,AB,fun k hk=>by simp[Value.ownBlock]at hk⟩
    .rintro⟨i,o,a,p,vo,G,wr⟩⟨hi,dg,df,db,bn,bq,bb,cg,cv,C,ch,cu,c5⟩;have hE:Dv.Ok { D with calls:=D.calls+i }:=⟨hD.cap,hD.kept,hD.now,hD.keptM,hD.nowM,hD.pend⟩;have cw:Sm { D with calls:=D.calls+i } (k+20):=⟨by have:=a1.calls;grind,by have:=a1.pend;grind,a1.at_,a1.keep⟩;obtain⟨f,hf⟩:∃f,21-i=f+1:=⟨20-i,J⟩;have a4:f=21-(i+1):=J;rw[hf]at bn bq
     have c6:¬i<m->(CZ gen rd m 21 0 [] [] 0=(a,p)/\EJ gen rd m 21 0 []=i):=fun q=>by
      obtain⟨V,T⟩:=rep_0 (gen:=gen) (rd:=rd) (f:=f) (op:=o) (out:=a) (b:=p) q;grind
     refine(O 6)<|Zd 26 (fun c1=>?_) fun c1=>?_
     .refine(O 3∘Zc (Pf bb hE)) ?_;rintro _ _⟨rfl,rfl⟩;refine(O 3)<|Zi (fun c2=>?_) fun c2=>?_
      .have ao:i<m:=(cl i).2 ⟨J,c2⟩
       have er:Dv.read { D with calls:=D.calls+i } ((10+i:Y):H)=({ D with calls:=D.calls+(i+1) },rd i,0):=by
        unfold Dv.read;rw[Ag Bh,Ag J,<-cf];rfl
       have cr:=lV bb hE (cw.small J) ((10+i:Y):H) J J;rw[er]at cr;have cx:Aim (rd i)<=512:=by rw[<-cf];exact Abs _ _
       refine(O 8∘Zc cr) ?_;rintro _ w5⟨rfl,b1,N⟩;refine(O 12) ?_;have bx:=N.own cg Z;have b0:=N.own ch Z;have cc:=cu.tm N Z;have b6:=cv.trans N;have z5:=b6.size;have cd:=fO (rd i) w5;have b2:=sT (rd i) cx;rcases hde:CB (rd i)with⟨x,ee⟩;rw[hde]at cd b2
       have stop:(ee≠0∨x.gen≠gen∨x.index≠i)->(CZ gen rd m 21 0 [] [] 0=(a,p)/\EJ gen rd m 21 0 []=i+1):=fun q=>by
        obtain⟨V,T⟩:=rep_1 (f:=f) (op:=o) (out:=a) (b:=p) ao hde q;grind
       refine(Cd 43 (e:=by simp)∘O 5∘Zc cd) ?_;rintro _ w6⟨rfl,bj⟩;refine(O 3) ?_;have c4:x.kind<=255:=b2.1;have dk:Aim x.data<=512:=b2.2;refine(Zn) ?_;rintro xb w7 c9 ca cb;refine(Zs ca (hlt:=Bq _)) ?_;rintro w8 b4 cz;refine(O 4) ?_;replace b4:Bk w8 xb 144 x.cells:=b4;have x8:Bf w5 w8:=Bv (bj.trans cb) cz (bj.trans cb).size (fun k hk=>by simp at hk;have:=bj.size;omega);have L:=bx.ext x8;have d:=b0.ext x8;have r:=cc.ext x8;have l:=b1.ext x8;have I:=b6.trans (Tm.Age x8 B Cs);have z8:=I.size;refine(O 4)<|Zd 52 (fun s1=>?_) fun s1=>?_
       .refine(O 22∘CS) ?_;obtain⟨V,T⟩:=stop (.inl J);exact S w8 a p (i+1) G C V T l d r I
       .refine(O 6)<|Zd 58 (fun s2=>?_) fun s2=>?_
        .refine(O 16∘CS) ?_;obtain⟨V,T⟩:=stop (.inr (.inl s2));exact S w8 a p (i+1) G C V T l d r I
        .refine(O 6)<|Zi (fun s3=>?_) fun s3=>?_
         .refine(O 9∘CS) ?_;obtain⟨V,T⟩:=stop (.inr (.inr s3));exact S w8 a p (i+1) G C V T l d r I
         .have a7:¬(ee≠0∨x.gen≠gen∨x.index≠i):=J;refine(O 9)<|Zi (fun k3=>?_) fun k3=>?_
          .have ai:x.kind=3:=J
           have af:(o=[]∨x.data≠[BS (Aim o)])->(CZ gen rd m 21 0 [] [] 0=(a,p)/\EJ gen rd m 21 0 []=i+1):=fun q=>by
            obtain⟨V,T⟩:=rep_2 (f:=f) (op:=o) (out:=a) (b:=p) ao hde a7 ai q;grind
           obtain⟨Ao,co,rfl,_,_⟩:=L.slice;refine(O 7)<|Zd 71 (fun t1=>?_) fun t1=>?_
           .refine(O 20∘CS) ?_;obtain⟨V,T⟩:=af (.inl (Gx J));exact S w8 a p (i+1) G C V T l d r I
           .refine(O 5) ?_;refine Li 1 Z Z underlying23 CD Z Z Z Z (by rfl) Bc ?_;rintro sb w9 c8 ce t;have bs:=L.ext t;have A:=d.ext t;have a9:=r.ext t;have a0:=l.ext t;have bf:=I.trans (Tm.Age t B Cs);have z9:=bf.size;refine(Zv (DZ (QV ce J))∘O 3)<|Zi (fun t2=>?_) fun t2=>?_
            .refine(O 9∘CS) ?_;obtain⟨V,T⟩:=af (.inr t2);exact S w9 a p (i+1) G C V T a0 A a9 bf
            .have E:¬(o=[]∨x.data≠[BS (Aim o)]):=by
              rintro(q|q)
              .grind
              .grind
             obtain⟨r1,r2⟩:=rep_3 (f:=f) (op:=o) (out:=a) (b:=p) ao hde a7 ai E;refine(O 5∘Qs w.heap.size z9 A) ?_;rintro _ ct b5 cn ba c3;refine(O 12) ?_;have bi:=Tm.Agl A ba;have a2:=bi.own bs Bc;have bm:=a9.tm bi Bc;have a6:=a0.tm bi Bc Bc Bc Bc Bc Bc;have b8:=bf.fresh ba (fun k hk=>(A.lt k (Fb.1 hk)).1);refine Lb ((i+1),([]),(a++[o]),(i+1),(.slice Aa 0 0:Ah),ct,b5) ?_;refine⟨J,J,Bl,Bx,?_,?_,a6,Bp.nil _ _ _ _,b8,C++[_],?_,bm.snoc a2,fun k hk=>by simp[Value.ownBlock]at hk⟩
             .rw[bn,r1,a4]
             .rw[bq,r2,a4];omega
             .grind
          .have ai:¬x.kind=3:=J;refine(O 3∘Zv (Cf b4)∘Zc (yb x c4 J w8)) ?_;rintro _ w9⟨⟨n,rfl,hn⟩,t⟩;refine(O 3∘Zn) ?_;rintro nb b5 c0 cj a8;refine(Zs cj (hlt:=Bq _)) ?_;rintro bc aj ck;refine(O 8) ?_;replace aj:Bk bc nb 116 n.cells:=aj;have W:Bf w8 bc:=Bv (t.trans a8) ck (t.trans a8).size (fun k hk=>by simp at hk;have:=t.size;omega);have y:=L.ext W;have P:=d.ext W;have K:=r.ext W;have Q:=l.ext W;have ab:=I.trans (Tm.Age W B Cs);have cp:=ab.size;rcases E:FJ x with _|n'
           .obtain⟨r1,r2⟩:=rep_4 (f:=f) (op:=o) (out:=a) (b:=p) ao hde a7 ai E;refine(O 10∘CS) ?_;exact S bc a p (i+1) G C Bh J Q P K ab
           .obtain⟨r1,r2⟩:=rep_5 (f:=f) (op:=o) (out:=a) (b:=p) ao hde a7 ai E;obtain rfl:=hn n' E;refine(O 4∘Zv (Cf aj)) ?_;refine qB (w.heap.size) Z Z (fun _=>rfl) Z underlying93 MU Z Bc Bc Z Z (fun _=>rfl) (by rfl) (cp) (y) CE J ?_;rintro _ cs cq cm al b3;refine(O 8) ?_;have b9:=Tm.Agl y al;have a3:=b9.own P Bc;have bl:=K.mo al (fun v hv k hk q=>c5 k (Fb.1 q) v hv hk);have a5:=Q.tm b9 Bc Bc Bc Bc Bc Bc;have b7:=ab.fresh al (fun k hk=>(y.lt k (Fb.1 hk)).1);have en:CC (o++[n'])=CC o++n'.cells:=Bl;refine Lb ((i+1),(o++[n']),a,p,cs,G,cq) ?_;refine⟨J,J,Bx,J,?_,?_,a5,?_,b7,C,a3,bl,?_⟩
            .rw[bn,r1,a4]
            .rw[bq,r2,a4];omega
            .simp;omega
            .intro k hk v hv q;rcases b3 with e|⟨g,e,hg⟩
             .grind
             .rw[e]at hk;cases hk;have:=(K.lt v hv _ q).2.1;omega
      .refine(O 9∘CS) ?_;grind
     .refine(O 17∘CS) ?_;grind
end
section
open Go.MapKept Srt
section
variable{α:Type}
def xo{A:Ae (By×α)}{s p:By}{v u:α}:(p,u)∈Hi A s v↔(p=s/\u=v)∨(p≠s/\(p,u)∈A):=by
 unfold Hi;grind
def xm{A:Ae (By×α)}{s p:By}{u:α}:(p,u)∈Il A s↔p≠s/\(p,u)∈A:=by
 unfold Il;grind
def lP{β:Type}(f:α->β)(A:Ae (By×α))(s:By)(v:α):(Hi A s v).map (fun a=>(a.1,f a.2))=Hi (A.map fun a=>(a.1,f a.2)) s (f v):=by
 unfold Hi;have e:(A.map fun a=>(a.1,f a.2)).map (·.1)=A.map (·.1):=by rw[EE];rfl
 rw[e];split
 .simp only[EE];apply Ju;grind
 .simp
def tA{β:Type}(f:α->β)(A:Ae (By×α))(s:By):(Il A s).map (fun a=>(a.1,f a.2))=Il (A.map fun a=>(a.1,f a.2)) s:=by
 unfold Il;rw[List.filter_map];rfl
def OJ(A:Ae (By×α))(m:By->Av α):Prop:=∀p v,(p,v)∈A↔m p=X v
def OJ.nil:OJ ([]:Ae (By×α)) QQ:=fun p v=>by simp[QQ]
def OJ.put{A:Ae (By×α)}{m:By->Av α}(h:OJ A m)(s:By)(v:α):OJ (Hi A s v) (Srt.Dj m s (X v)):=fun p u=>by
 rw[xo,h p u];unfold Srt.Dj;grind
def OJ.del{A:Ae (By×α)}{m:By->Av α}(h:OJ A m)(s:By):OJ (Il A s) (Srt.Dj m s Aa):=fun p u=>by
 rw[xm,h p u];unfold Srt.Dj;simp
end
structure Seen{α:Type}(enc:α->Ah)(es:Ap MapEntry)(seen:Ap Y)(A V:Ae (By×α)):Prop where
 sub:∀a∈V,a∈A
 nod:(V.map (·.1)).Nodup
 fwd:∀e∈es.toList,e.born∈seen->∃a∈V,e.key=Bj a.1
 bwd:∀a∈V,∃e∈es.toList,e.born∈seen/\e.key=Bj a.1
section
variable{α:Type}{enc:α->Ah}{w:Ad}{b c:Y}{es:Ap MapEntry}{A V:Ae (By×α)}{seen:Ap Y}
def Seen.nil:Seen enc es #[] A []:=⟨Bl,Bl,fun e _ h=>by grind,Bl⟩
def Seen.next(hm:Mp w b es c (A.map fun a=>(a.1,enc a.2)))(h:Seen enc es seen A V){e:MapEntry}(he:e∈es.toList)(N:e.born∉seen):∃a∈A,e.key=Bj a.1/\e.val=enc a.2/\Seen enc es (seen.push e.born) A (V++[a]):=by
 obtain⟨p,E,K,I⟩:=hm.mem he;obtain⟨a,G,rfl⟩:=Ck.1 E;have k:=hm.st.2.2
 have D:∀g∈es.toList,g.key=e.key->g=e:=fun g f q=>by
  obtain⟨i,o,rfl⟩:=Hm.1 he;obtain⟨j,n,rfl⟩:=Hm.1 f;have B:(es.toList.map (·.key))[j]'(by simpa using n)=(es.toList.map (·.key))[i]'(by simpa using o):=by simpa using q
  have:=(Nl k).1 B;grind
 refine⟨a,G,K,I,fun x d=>?_,?_,fun g f l=>?_,fun x d=>?_⟩
 .rcases Dz.1 d with d|d
  .exact h.sub x d
  .grind
 .rw[DX,Ma,WE];refine⟨h.nod,Bl,fun x d y C q=>?_⟩;simp only[CG]at C;subst C;obtain⟨L,v,rfl⟩:=Ck.1 d;obtain⟨g,f,t,m⟩:=h.bwd L v;grind
 .rcases Array.mem_push.1 l with l|l
  .obtain⟨x,d,q⟩:=h.fwd g f l;exact⟨x,TQ _ d,q⟩
  .by_cases q:g.born∈seen
   .grind
   .refine⟨a,Bl,?_⟩;have r:=hm.st.2.1
    have:g=e:=by
     obtain⟨i,o,rfl⟩:=Hm.1 he;obtain⟨j,n,rfl⟩:=Hm.1 f;have B:(es.toList.map (·.born))[j]'(by simpa using n)=(es.toList.map (·.born))[i]'(by simpa using o):=by simpa using l
     have:=(Nl r).1 B;subst this;rfl
    grind
 .rcases Dz.1 d with d|d
  .obtain⟨g,f,t,m⟩:=h.bwd x d;grind
  .grind
def Seen.done(hm:Mp w b es c (A.map fun a=>(a.1,enc a.2)))(h:Seen enc es seen A V)(d:∀e∈es.toList,e.born∈seen):∀a,a∈V↔a∈A:=fun a=>by
 refine⟨h.sub a,fun l=>?_⟩;have g:=hm.keys;rw[EE]at g
 have p:(Bj a.1,enc a.2)∈es.toList.map (fun e=>(e.key,e.val)):=by
  rw[hm.kv,EE];exact Ck.2 ⟨a,l,Z⟩
 obtain⟨e,k,q⟩:=Ck.1 p;injection q with q1 q2;obtain⟨m,f,o⟩:=h.fwd e k (d e k);have n:a.1=m.1:=VE (q1.symm.trans o);have t:=h.sub m f;obtain⟨i,y,rfl⟩:=Hm.1 l;obtain⟨j,v,rfl⟩:=Hm.1 t;have r:(A.map ((fun x=>x.1)∘fun a=>(a.1,enc a.2)))[i]'Bh=(A.map ((fun x=>x.1)∘fun a=>(a.1,enc a.2)))[j]'Bh:=by simpa using n
 have:=(Nl g).1 r;grind
end
end
section
attribute [local irreducible] OW KW QW EX GW NV
open Pth Rec Srt Wal
abbrev Qj:={ x:M//Aim x.path<=2000000 }
instance:Inhabited Qj:=⟨⟨⟨[],0,0,0,0⟩,Bl⟩⟩
abbrev MA(x:Qj):Bg:=x.1.path
def qX(x y:Qj)(W:Ad)(o:DR W):Bn prog 80 [.agg (x.1.cells).toArray,.agg (y.1.cells).toArray] W fun r W'=>r=U (Ce MA x y)/\Gr W W':=by
 obtain⟨x,j⟩:=x;obtain⟨y,i⟩:=y;refine Bw func80 Z ntmps80 (by rfl) Z ?_;refine(O 2∘Zv (by exact EX.box (l:=x.cells) Z Z)) ?_;have d:=Bk.new W 60 x.cells;have h:=Gr.alloc W (.cells x.cells.toArray 60);generalize m:W.alloc (.cells x.cells.toArray 60)=w1 at d h;refine(Zv (by exact EX.box (l:=y.cells) Z Z)∘O 5) ?_;have e:=Bk.new w1 60 y.cells;have f:=Gr.alloc w1 (.cells y.cells.toArray 60);have a:=d.ext f.1;generalize k:w1.alloc (.cells y.cells.toArray 60)=w2 at e f a;have g:=h.trans f;refine(O 3∘Zc (rZ x.path y.path j i w2 (o.ext g.1))) ?_;rintro _ p⟨rfl,n⟩;refine(O 2∘Bu) ?_;exact⟨Z,g.trans n⟩
def MO(m:Bg->Av M)(n:Nt):Bg->Av M:=if n.kind=1 then Srt.Dj m n.mem.path (X n.mem)else if n.kind=2 then Srt.Dj m n.mem.path Aa else m
def Ha(l:Ae M)(ns:Ae Nt):Bg->Av M:=ns.foldl MO (Lz M.path l)
def Uj(l:Ae M)(ns:Ae Nt)(n:Nt):Ha l (ns++[n])=MO (Ha l ns) n:=by simp[Ha]
def snocI{α:Type}{p:Ae α->Prop}(h0:p [])(h1:∀l a,p l->p (l++[a]))(l:Ae α):p l:=by
 have:∀r:Ae α,p r.reverse:=fun r=>by
  induction r with
  |nil=>grind
  |cons a r ih=>grind
 simpa using this l.reverse
def qT(l:Ae M)(ns:Ae Nt):∀p z,Ha l ns p=X z->z.path=p/\(z∈l∨∃n∈ns,n.mem=z):=by
 induction ns using snocI with
 |h0=>intro p z h;exact⟨jI M.path h,.inl (YW M.path h)⟩
 |h1 ns n ih=>
  intro p z h;rw[Uj]at h
  have a:Ha l ns p=X z->z.path=p/\(z∈l∨∃k∈ns++[n],k.mem=z):=fun q=>by
   grind
  unfold MO at h;split at h
  .unfold Srt.Dj at h;grind
  .split at h
   .unfold Srt.Dj at h;grind
   .grind
abbrev OI:=Bg×M
abbrev OT(m:M):Ah:=.agg m.cells.toArray
def lO{α:Type}(l:Ae (Bg×α))(s:Bg)(v:α):Aim (Hi l s v)<=Aim l+1:=by
 unfold Hi;grind
def tv{α:Type}(l:Ae (Bg×α))(s:Bg):Aim (Il l s)<=Aim l:=List.length_filter_le _ _
def Zy{α:Type}[DecidableEq α]:∀{V A:Ae α},V.Nodup->(∀a∈V,a∈A)->Aim V<=Aim A
 |[],_,_,_=>BD _
 |x::V,A,hn,h=>by
  have hn':=Qg.1 hn;have hx:=h x Bl;have ih:=Zy (A:=A.erase x) hn'.2 (fun a ha=>(List.mem_erase_of_ne (fun e=>hn'.1 Bh)).2 (h a Bh));grind
def kM{α β:Type}{V:Ae (α×β)}(h:(V.map (·.1)).Nodup):V.Nodup:=by
 have:V.Pairwise (fun a b=>a.1≠b.1):=Mc.1 h;exact this.imp fun d e=>d (by rw[e])
def vH{w w':Ad}{r b s:Y}{a:Ap Y}{c:Y}(h:It w r b s a c)(hx:Bf w w'):It w' r b s a c:=by
 unfold It at h ⊢
 have d:r<w.heap.size:=by
  rcases Db r w.heap.size with q|q
  .omega
  .grind
 rw[hx.block r d];omega
def bA(l:Ae M)(hl:∀x∈l,Aim x.path<=2000000)(hn:Aim l<=100000)(ns:Ae Nt)(co:∀x∈ns,Aim x.mem.path<=2000000)(cm:Aim ns<=100000)(A A2:Av AC)(c c2 B B2:Y)(w:Ad)(hG:DR w)(hs:Sl w B A (DH l))(b4:Sl w B2 A2 (CC ns)):
 Bn prog 42 [.slice A (Aim l) c,.slice A2 (Aim ns) c2] w fun v w'=>∃out,IsMap M.path (Ha l ns) out/\Bp w' w.heap.size 60 5 v (Aim out) (DH out)/\Bf w w':=by
 refine Bw func42 Z ntmps42 Be Z ?_;refine(O 6) ?_;refine du Z Z ?_;rintro mb w1 bx b9 b3;refine(O 10)<|Lo (fun((i,wr):Y×Ad)=>(i<=Aim l/\(∃es cc AA,Mp wr mb es cc (AA.map fun a:OI=>(a.1,OT a.2))/\OJ AA (Lz M.path (l.take i))/\Aim AA<=i)/\Bf w wr,[(1,.slice A2 (Aim ns) c2),(5,.map (X mb)),(14,.slice A (Aim l) c),(15,U ((Aim l:Y):H)),(16,U i)],wr,Aim l-i)) (0,w1) ?_ ?_
 .exact⟨BD _,⟨_,_,[],b9,OJ.nil,Bq _⟩,b3⟩
 .rintro⟨i,wr⟩⟨hi,⟨es,cc,AA,hm,d,bi⟩,E⟩;refine(O 5)<|Zi (fun g=>?_) fun g=>?_
  .obtain⟨b,o,rfl,_,m⟩:=(hs.ext E).flat (c:=5) (fun _=>rfl) Bc g;have G:l.take (i+1)=l.take i++[l[i]]:=(CR g).symm;generalize l[i]=x at m G;refine(O 6∘Zv (Do x.cells m)∘Zn) ?_;rintro xb w2 a7 bh D;refine(Zs bh (hlt:=Bq _)) ?_;rintro w3 N Q;refine(O 4) ?_;replace N:Bk w3 xb 60 x.cells:=N;have S:Bf wr w3:=Bv D Q D.size (fun k n=>by simp at n;omega);have al:=hm.ext S;refine(O 1∘Zv (Cf N)) ?_;refine OW.put Z underlying149 underlying9 Z Z Z (al) ?_;rintro ao a0 T K j;refine(O 6)<|Lb ((i+1),T) ?_;refine⟨J,⟨ao,a0,Hi AA x.path x,?_,by rw[G,vO];exact d.put _ _,BF (lO _ _ _) J⟩,Bv (E.trans S) j (E.trans S).size (fun k n=>by simp at n;omega)⟩;rw[lP OT AA x.path x];exact K
  .obtain rfl:i=Aim l:=J;rw[DY]at d;refine(O 9)<|Lo (fun((i,wr):Y×Ad)=>(i<=Aim ns/\(∃es cc AA,Mp wr mb es cc (AA.map fun a:OI=>(a.1,OT a.2))/\OJ AA (Ha l (ns.take i))/\Aim AA<=Aim l+i)/\Bf w wr,[(5,.map (X mb)),(25,.slice A2 (Aim ns) c2),(26,U ((Aim ns:Y):H)),(27,U i)],wr,Aim ns-i)) (0,wr) ?_ ?_
   .exact⟨BD _,⟨_,_,AA,hm,d,bi⟩,E⟩
   .clear hm d bi E es cc AA;rintro⟨i,wr⟩⟨hi,⟨es,cc,AA,hm,d,bi⟩,E⟩;refine(O 5)<|Zi (fun g=>?_) fun g=>?_
    .obtain⟨b,o,rfl,_,m⟩:=(b4.ext E).flat (c:=6) (fun _=>rfl) Bc g;have G:ns.take (i+1)=ns.take i++[ns[i]]:=(CR g).symm;generalize ns[i]=x at m G;refine(O 6∘Zv (Do x.cells m)∘Zn) ?_;rintro xb w2 a7 bh D;refine(Zs bh (hlt:=Bq _)) ?_;rintro w3 N Q;refine(O 4) ?_;replace N:Bk w3 xb 116 x.cells:=N;have S:Bf wr w3:=Bv D Q D.size (fun k n=>by simp at n;omega);have al:=hm.ext S;have a9:=N.part (o:=1) (l2:=x.mem.cells) Z;refine(O 8)<|Zi (fun a2=>?_) fun a2=>?_
     .have af:Ha l (ns.take (i+1))=Srt.Dj (Ha l (ns.take i)) x.mem.path (X x.mem):=by rw[G,Uj];unfold MO;rw[Ai a2]
      refine(O 6∘Zv (Do x.mem.cells a9)) ?_;refine OW.put Z underlying149 underlying9 Z Z Z (al) ?_;rintro ao a0 T K j;refine(O 7)<|Lb ((i+1),T) ?_;refine⟨J,⟨ao,a0,Hi AA x.mem.path x.mem,?_,by rw[af];exact d.put _ _,BF (lO _ _ _) J⟩,Bv (E.trans S) j (E.trans S).size (fun k n=>by simp at n;omega)⟩;rw[lP OT AA x.mem.path x.mem];exact K
     .refine(O 5)<|Zi (fun bc=>?_) fun bc=>?_
      .have af:Ha l (ns.take (i+1))=Srt.Dj (Ha l (ns.take i)) x.mem.path Aa:=by rw[G,Uj];unfold MO;rw[Ag a2,Ai bc]
       refine(O 5) ?_;refine OW.del Z underlying149 underlying9 Z Z (al) ?_;rintro ao a0 T K j;refine(O 7)<|Lb ((i+1),T) ?_;refine⟨J,⟨ao,a0,Il AA x.mem.path,?_,by rw[af];exact d.del _,BF (tv _ _) J⟩,Bv (E.trans S) j (E.trans S).size (fun k n=>by simp at n;omega)⟩;rw[tA OT AA x.mem.path];exact K
      .have af:Ha l (ns.take (i+1))=Ha l (ns.take i):=by rw[G,Uj];unfold MO;rw[Ag a2,Ag bc]
       refine(O 7)<|Lb ((i+1),w3) ?_;exact⟨J,⟨es,cc,AA,al,by rw[af];exact d,J⟩,E.trans S⟩
    .obtain rfl:i=Aim ns:=J;rw[DY]at d;have cn:w.heap.size<=mb:=bx
     have bq:∀a∈AA,a.2.path=a.1/\Aim a.2.path<=2000000:=fun a ha=>by
      obtain⟨e1,e2⟩:=qT l ns _ _ ((d a.1 a.2).1 ha);grind
     refine(O 9) ?_;refine OW.range Z Z underlying149 Z (hm) ?_;rintro rb w2 a7 cb D;refine(O 1) ?_;have b8:=hm.ext D;have x2:=E.trans D;have ck:rb≠mb:=by have:=hm.lt;omega
     have cl:w.heap.size<=rb:=by have:=E.size;omega
     refine Lc (fun((V,v,P):(Ae OI)×Ah×Ad)=>((∀a,a∈V↔a∈AA)/\(V.map (fun a:OI=>a.1)).Nodup/\Bp P w.heap.size 60 5 v (Aim V) (DH (V.map (fun a:OI=>a.2)))/\Bf w P,[(10,v)],P)) ?_ ?_
     .refine(O 1)<|Lo (fun((V,v,P):(Ae OI)×Ah×Ad)=>((∃ab,Seen OT es ab AA V/\It P rb mb cc ab cc)/\Mp P mb es cc (AA.map fun a:OI=>(a.1,OT a.2))/\Bp P w.heap.size 60 5 v (Aim V) (DH (V.map (·.2)))/\Bf w P,[(10,v),(49,.pointer (X ⟨rb,0,Aa⟩))],P,Aim AA-Aim V)) (([]),(.slice Aa 0 0),w2) ?_ ?_
      .exact⟨⟨#[],Seen.nil,cb⟩,b8,Bp.nil _ _ _ _,x2⟩
      .rintro⟨V,v,P⟩⟨⟨ab,I,bs⟩,a1,h,C⟩;refine(O 2) ?_;refine OW.next Z Z Z (a1) (bs) ?_ ?_
       .intro b2;refine(O 5∘Lm (V,v,P)) ?_;exact⟨I.done a1 b2,I.nod,h,C⟩
       .rintro e w3 he b6 a6 aj;refine(O 8) ?_;obtain⟨a,cp,n,hv,r⟩:=I.next a1 he b6;obtain⟨ek,ew,eb⟩:=e;simp only at n hv;subst n hv;have Q:=a1.mo aj Bh;have S:Bf w w3:=Bv C aj C.size (fun k n=>by simp at n;omega)
        have ba:=h.mo aj (fun k n=>by
         simp only[CG];rintro rfl;obtain⟨_,_,fr,q,_⟩:=h.blkT k n;unfold It at bs;grind)
        have cf:Aim V<Aim AA:=by
         have:=Zy (kM r.nod) r.sub;rw[BA,CJ]at this;omega
        refine(Zv (by exact pc Z (Q) (a6) (he))∘O 1∘Zn) ?_;rintro xb w4 cj ce bj;refine(Zs ce (hlt:=Bq _)) ?_;rintro T bf K;refine(O 3) ?_;replace bf:Bk T xb 60 a.2.cells:=bf;have y5:Bf w3 T:=Bv bj K bj.size (fun k n=>by simp at n;omega);have x5:=S.trans y5;have t:=ba.ext y5;have bm:=Q.ext y5;have a5:=vH a6 y5;refine(Zv (Cf bf)∘Ko x5 t) ?_;rintro _ v6 w6 b5 x6 cd;refine(O 3) ?_;have a4:Mo T w6 v.ownBlock.toList:=Mo.grown cd (fun k e=>by grind)
        have nm:mb∉v.ownBlock.toList:=fun q=>by
         obtain⟨_,_,fr,q2,_⟩:=t.blkT mb (Fb.1 q);rw[bm.blk]at q2;cases q2
        have nr:rb∉v.ownBlock.toList:=fun q=>by
         obtain⟨_,_,fr,q2,_⟩:=t.blkT rb (Fb.1 q);unfold It at a5;grind
        refine Lb ((V++[a]),v6,w6) ?_ (hm:=by dsimp only;rw[BA];simp;omega);refine⟨⟨_,r,?_⟩,bm.mo a4 nm,?_,x6⟩
        .unfold It at a5 ⊢
         have g:rb<T.heap.size:=by
          rcases Db rb T.heap.size with h'|h'
          .omega
          .grind
         rw[a4.block rb g nr];omega
        .rw[BA,DX,Ma,kE];omega
     .rintro⟨V,v,P⟩⟨hV,a3,h,C⟩
      have ch:∀z,z∈V.map (·.2)↔Ha l ns z.path=X z:=fun z=>by
       constructor
       .intro hz;obtain⟨a,ha,rfl⟩:=Ck.1 hz;rw[(bq a ((hV a).1 ha)).1];exact(d a.1 a.2).1 ((hV a).1 ha)
       .intro hz;exact Ck.2 ⟨(z.path,z),(hV _).2 ((d _ _).2 hz),Z⟩
      have b1:∀x∈V.map (·.2),Aim x.path<=2000000:=fun x E=>by
       grind
      have bn:(V.map (·.2)).map M.path=V.map (·.1):=by
       rw[EE];exact Ju fun a ha=>(bq a ((hV a).1 ha)).1
      obtain⟨L,hL⟩:∃L:Ae Qj,L.map (·.1)=V.map (·.2):=⟨(V.map (·.2)).attachWith _ b1,Bl⟩;have cg:Aim L=Aim V:=by have:=Ar DW hL;simpa using this
      have b0:∀L:Ae Qj,L.flatMap (fun x=>x.1.cells)=DH (L.map (·.1)):=fun L=>by
       induction L with
       |nil=>rfl
       |cons x L ih=>rw[EY,Cp,ih];rfl
      have cf:Aim V<=1000000:=by
       have h1:=Zy (V:=V) (A:=AA) (kM a3) (fun p hp=>(hV p).1 hp);omega
      have bb:Bp P w.heap.size 60 5 v (Aim L) (L.flatMap (fun x=>x.1.cells)):=by rw[b0,hL,cg];exact h
      have c1:=VC Tryz.Ahf (f:=79) Z func79 Be (e:=60) Z underlying60 Z Tn Bc (cells:=fun x:Qj=>x.1.cells) (fun _=>rfl) (fun x v hv=>by simp[M.cells]at hv;rcases hv with rfl|rfl|rfl|rfl|rfl<;>rfl) (Ce MA) (swo MA) func80 Be w.heap.size L J v P bb
       (fun W x y b7=>qX x y W (by
        obtain⟨mm,bl⟩:=hG
        exact⟨mm,by
         have hb:0<w.heap.size:=World.block_lt_of_cell? w _ bl;have h1:=b7.block 0 (Kj hb C.size) (fun q=>by have:=(h.lt _ (Fb.1 q)).1;omega);have h2:=C.block 0 hb;unfold World.cell? at bl ⊢;grind⟩))
      refine(O 3∘Zc c1) ?_;rintro _ T⟨rfl,L',ai,a8,t,j⟩;refine(O 6∘Bu) ?_
      have ca:(L'.map MA).Nodup:=by
       have h1:(L.map MA).Nodup:=by
        have:L.map MA=V.map (·.1):=by
         have e1:L.map MA=(L.map (·.1)).map M.path:=by rw[EE];rfl
         rw[e1,hL];exact bn
        rw[this];exact a3
       exact(ai.map MA).nodup_iff.2 h1
      have hr:=Aac MA a8 ca;refine⟨L'.map (·.1),⟨?_,fun x=>?_⟩,?_,Bv C j C.size (fun k n=>(h.lt k (Fb.1 n)).1)⟩
      .exact Mc.2 hr
      .grind
      .rw[DQ,ai.length_eq,<-b0];omega
end
section
attribute [local irreducible] OW KW QW EX GW NV
open Pth Rec Srt Dsk Wal Cat
structure _root_.Go.Proofs.YtkmlafmjaeeanaaGreatDoor.Vl where
 D:Dv
 gen:H
 next:H
 mems:Ae M
 broken:Aw
def HC(db:Y)(V:Vl)(u:Ah):Bm:=[.pointer (X ⟨db,0,Aa⟩),U V.gen,U V.next,u,.bool V.broken]
structure VAt(w:Ad)(B vb db:Y)(V:Vl):Prop where
 dev:Cz w B db V.D
 at_:∃u,Bk w vb 82 (HC db V u)/\Bp w B 60 5 u (Aim V.mems) (DH V.mems)
 low:B<=vb
structure VAu(w:Ad)(B vb db:Y)(V:Vl)(u:Ah):Prop where
 dev:Cz w B db V.D
 bk:Bk w vb 82 (HC db V u)
 own:Bp w B 60 5 u (Aim V.mems) (DH V.mems)
 low:B<=vb
def VAu.at_{w:Ad}{B vb db:Y}{V:Vl}{u:Ah}(h:VAu w B vb db V u):VAt w B vb db V:=⟨h.dev,⟨u,h.bk,h.own⟩,h.low⟩
def VAt.u{w:Ad}{B vb db:Y}{V:Vl}(h:VAt w B vb db V):∃u,VAu w B vb db V u:=by
 obtain⟨f,⟨u,e,d⟩,a⟩:=h;exact⟨u,f,e,d,a⟩
def vty(T:Ay):Aw:=Cs T||T==82
section
variable{w w':Ad}{B vb db:Y}{V V':Vl}
def VAt.ext(h:VAt w B vb db V)(hx:Bf w w'):VAt w' B vb db V:=by
 obtain⟨f,⟨u,e,d⟩,a⟩:=h;exact⟨f.ext hx,⟨u,e.ext hx,d.ext hx⟩,a⟩
def VAt.dev_tm(h:VAt w B vb db V){D':Dv}(a:Cz w' B db D')(t:Tm w w' B Cs):VAt w' B vb db { V with D:=D' }:=by
 obtain⟨g,⟨u,f,e⟩,d⟩:=h;exact⟨a,⟨u,t.bk f Bc,t.own e Bc⟩,d⟩
def Tm.vty{w w':Ad}{B:Y}(t:Tm w w' B Cs):Tm w w' B vty:=t.mono fun T h=>by unfold Go.Proofs.YtkmlafmjaeeanaaGreatDoor.vty;grind
def VAt.put(h:VAt w B vb db V){u a:Ah}(d:Bk w vb 82 (HC db V u))(f:Bk w' vb 82 (HC db V' a))(e:Bp w B 60 5 a (Aim V'.mems) (DH V'.mems))(hm:Mo w w' [vb])(g:V'.D=V.D):VAt w' B vb db V'/\Tm w w' B vty:=by
 have t:=Tm.set d hm h.low;refine⟨⟨?_,⟨a,f,t.own e Bc⟩,h.low⟩,t.mono fun T h=>by unfold vty;grind⟩;rw[g];exact h.dev.tm t Bc Bc Bc Bc Bc Bc
def VAu.ext{u:Ah}(h:VAu w B vb db V u)(hx:Bf w w'):VAu w' B vb db V u:=⟨h.dev.ext hx,h.bk.ext hx,h.own.ext hx,h.low⟩
def VAu.dev_tm{u:Ah}(h:VAu w B vb db V u){D':Dv}(hd:Cz w' B db D')(t:Tm w w' B Cs):VAu w' B vb db { V with D:=D' } u:=
 ⟨hd,t.bk h.bk Bc,t.own h.own Bc,h.low⟩
def VAu.put{u a:Ah}(h:VAu w B vb db V u)(e:Bk w' vb 82 (HC db V' a))(d:Bp w B 60 5 a (Aim V'.mems) (DH V'.mems))(hm:Mo w w' [vb])(f:V'.D=V.D):VAu w' B vb db V' a/\Tm w w' B vty:=by
 have t:=Tm.set h.bk hm h.low;refine⟨⟨?_,e,t.own d Bc,h.low⟩,t.mono fun T h=>by unfold vty;grind⟩;rw[f];exact h.dev.tm t Bc Bc Bc Bc Bc Bc
def OU{u:Ah}(h:VAu w B vb db V u)(e:Y):Bn prog 67 [.pointer (X ⟨vb,0,Aa⟩),U (e:H)] w fun v w'=>v=U (e:H)/\VAu w' B vb db { V with broken:=V.broken||decide (e≠0) } u/\Tm w w' B vty:=by
 have k:=h.bk;refine Bw func67 Z ntmps67 (by rfl) Z ?_;refine(O 12) ?_;refine OW.split 10 Z (fun j=>?_) (fun j=>?_)
 .refine(O 5∘Zt k (hlt:=Bq _)) ?_;rintro f a d;refine(O 6) ?_
  replace a:Bk f vb 82 (HC db { V with broken:=V.broken||decide (e≠0) } u):=by
   rw[show(V.broken||decide (e≠0))=Af by rw[j];rfl];exact a
  refine(Bu) ?_;obtain⟨i,g⟩:=h.put a h.own d Z;exact⟨Z,i,g⟩
 .refine(O 5∘Zt k (hlt:=Bq _)) ?_;rintro f a d;refine(O 6) ?_
  replace a:Bk f vb 82 (HC db { V with broken:=V.broken||decide (e≠0) } u):=by
   rw[show(V.broken||decide (e≠0))=decide (e≠0) by rw[j];rfl];exact a
  refine(Bu) ?_;obtain⟨i,g⟩:=h.put a h.own d Z;exact⟨Z,i,g⟩
def Yh(h:VAt w B vb db V)(e:Y):Bn prog 67 [.pointer (X ⟨vb,0,Aa⟩),U (e:H)] w fun v w'=>v=U (e:H)/\VAt w' B vb db { V with broken:=V.broken||decide (e≠0) }/\Tm w w' B vty:=by
 obtain⟨u,a⟩:=h.u;exact(OU a e).mono fun _ _ q=>⟨q.1,q.2.1.at_,q.2.2⟩
def Xc(h:VAt w B vb db V)(e:V.D.Ok):Bn prog 68 [.pointer (X ⟨vb,0,Aa⟩)] w fun v w'=>v=U ((if V.broken=Af∨V.D.dead=Af then 190 else 0:Y):H)/\w=w':=by
 obtain⟨u,g,f⟩:=h.at_;refine Bw func68 Z ntmps68 (by rfl) Z ?_;refine(O 29) ?_;refine OW.split 20 Z (fun a=>?_) (fun a=>?_)
 .refine(O 14∘Bu) ?_;grind
 .refine(O 5∘Zc (Uz h.dev e)) ?_;rintro _ _⟨rfl,rfl⟩;refine(O 3) ?_;refine HE Z (fun d=>?_) (fun d=>?_)
  .refine(O 4∘Bu) ?_;grind
  .refine(O 6∘Bu) ?_;grind
def gY(h:VAt w B vb db V):Bn prog 12 [.pointer (X ⟨vb,0,Aa⟩)] w fun v w'=>v=U V.gen/\w=w':=by
 obtain⟨u,d,a⟩:=h.at_;refine Bw func12 Z ntmps12 (by rfl) Z ?_;refine(O 21∘Bu) ?_;simp
def xR(h:VAt w B vb db V):Bn prog 17 [.pointer (X ⟨vb,0,Aa⟩)] w fun v w'=>v=U V.next/\w=w':=by
 obtain⟨u,d,a⟩:=h.at_;refine Bw func17 Z ntmps17 (by rfl) Z ?_;refine(O 21∘Bu) ?_;simp
def Afd(h:VAt w B vb db V)(a:V.D.Ok):Bn prog 60 [.pointer (X ⟨vb,0,Aa⟩)] w fun v w'=>v=U (V.D.cap:H)/\w=w':=by
 obtain⟨u,e,d⟩:=h.at_;refine Bw func60 Z ntmps60 (by rfl) Z ?_;refine(O 19∘Zc (Ij h.dev a)) ?_;rintro _ _⟨rfl,rfl⟩;refine(O 2∘Bu) ?_;simp
end
def xA(l:Ae M):∀u∈DH l,u.oneCell'=Af:=by
 intro u a;obtain⟨p,_,h⟩:=Ov.1 a;simp only[M.cells,List.mem_cons,List.not_mem_nil,or_false]at h;rcases h with rfl|rfl|rfl|rfl|rfl<;>rfl
def rV(l:Ae M)(hl:Aim l<=1000000)(A:Av AC)(c B:Y)(w:Ad)(n:Sl w B A (DH l)):
 Bn prog 52 [.slice A (Aim l) c] w fun v w'=>Bp w' w.heap.size 60 5 v (Aim l) (DH l)/\Bf w w':=by
 have j:=KA (cells:=M.cells) (k:=5) (fun _=>rfl) l;refine Bw func52 Z ntmps52 (by rfl) Z ?_;rcases A with _|⟨b,o,E⟩
 .have i:l=[]:=by
   rcases n with h|⟨_,_,h,_⟩
   .cases l with
    |nil=>rfl
    |cons x l=>
     have e:List.flatMap M.cells (x::l)=[]:=h;grind
   .cases h
  subst i;refine(O 15∘Bu) ?_;exact⟨Bp.nil _ _ _ _,Bf.refl _⟩
 .refine(O 14) ?_;refine Mi 0 ([]) Z Z underlying56 Tn Z Bc Z Z Z Bl Bc ?_;rintro y p f m d;refine(O 1) ?_;have a:Bp p w.heap.size 60 5 (.slice (X ⟨y,0,Aa⟩) 0 0) 0 []:=Bp.Agf (cap:=0) m f Z Bc;refine Ie Z Z underlying56 Tn Z Bc Z Z (d) (a) (Src.Agh underlying56 (n.ext d) j (xA l) Bc) CE J ?_;rintro D C g q t r;refine(O 2∘Bu) ?_;grind
section
variable{w w':Ad}{B vb db:Y}{V V':Vl}
def UW(h:VAt w B vb db V)(hm:Aim V.mems<=1000000):Bn prog 23 [.pointer (X ⟨vb,0,Aa⟩)] w fun v w'=>Bp w' w.heap.size 60 5 v (Aim V.mems) (DH V.mems)/\Bf w w':=by
 obtain⟨u,g,d⟩:=h.at_;obtain⟨A,c,rfl,_,a⟩:=d.slice;refine Bw func23 Z ntmps23 (by rfl) Z ?_;refine(O 19∘Zc (rV V.mems hm A c _ w a)) ?_;rintro _ e⟨own,f⟩;refine(O 2∘Bu) ?_;grind
def UJ(h:VAt w B vb db V)(hm:Aim V.mems<=1000000):Bn prog 66 [.pointer (X ⟨vb,0,Aa⟩)] w fun v w'=>Bp w' w.heap.size 121 2 v (Aim V.mems) (Eg (BV V.mems))/\Bf w w':=by
 obtain⟨u,Q,E⟩:=h.at_;obtain⟨A,c,rfl,_,n⟩:=E.slice;generalize T:V.mems=l at hm n E Q;refine Bw func66 Z ntmps66 Be Z ?_;refine(O 19) ?_;have P:Aim (BV l)=Aim l:=Mu l;refine Lo (fun((i,q,wr):Y×Ah×Ad)=>(i<=Aim l/\Bp wr w.heap.size 121 2 q i (Eg (BV (l.take i)))/\Bf w wr,[(3,q),(9,.slice A (Aim l) c),(10,U ((Aim l:Y):H)),(11,U i)],wr,Aim l-i)) (0,(.slice Aa 0 0),w) ?_ ?_
 .exact⟨BD _,Bp.nil _ _ _ _,Bf.refl _⟩
 .rintro⟨i,q,wr⟩⟨hi,f,D⟩;refine(O 5)<|Zi (fun a=>?_) fun a=>?_
  .obtain⟨b,o,rfl,_,d⟩:=(n.ext D).flat (l:=l) (i:=i) (c:=5) (fun _=>rfl) Bc a;have j:l.take (i+1)=l.take i++[l[i]]:=(CR a).symm;generalize l[i]=m at d j;refine(O 6∘Zv (Do m.cells d)∘Zn) ?_;rintro I S G x e;refine(Zs x (hlt:=Bq _)) ?_;rintro C p t;refine(O 4) ?_;replace p:Bk C I 60 m.cells:=p;have y:Bf wr C:=Bv e t e.size (fun k W=>by grind);refine(O 4∘Ko (D.trans y) (f.ext y)) ?_;rintro _ L K g r N;refine(O 7)<|Lb ((i+1),L,K) ?_;refine⟨a,?_,r⟩;rw[j,show BV (l.take i++[m])=BV (l.take i)++[(m.start,m.sectors)] by simp[BV],PN];exact g
  .obtain rfl:i=Aim l:=J;rw[DA (Bq _)]at f;refine(O 6∘Bu) ?_;grind
def vP(h:VAt w B vb db V)(hm:Aim V.mems<=1000000):Bn prog 45 [.pointer (X ⟨vb,0,Aa⟩)] w fun v w'=>Bp w' w.heap.size 9 1 v (Aim V.mems) (Dd (V.mems.map M.path))/\Bf w w':=by
 have K:=UW h hm;generalize S:V.mems=l at hm K;refine Bw func45 Z ntmps45 (by rfl) Z ?_;refine(O 12∘Zc K) ?_;rintro _ p⟨own,g⟩;obtain⟨A,c,rfl,_,x⟩:=own.slice;refine(O 4)<|Lo (fun((i,q,wr):Y×Ah×Ad)=>(i<=Aim l/\Bp wr p.heap.size 9 1 q i (Dd ((l.take i).map M.path))/\Bf p wr,[(3,q),(7,.slice A (Aim l) c),(8,U ((Aim l:Y):H)),(9,U i)],wr,Aim l-i)) (0,(.slice Aa 0 0),p) ?_ ?_
 .exact⟨BD _,Bp.nil _ _ _ _,Bf.refl _⟩
 .rintro⟨i,q,wr⟩⟨W,a,t⟩;refine(O 5)<|Zi (fun d=>?_) fun d=>?_
  .obtain⟨b,o,rfl,_,e⟩:=(x.ext t).flat (l:=l) (i:=i) (c:=5) (fun _=>rfl) Bl d;have j:l.take (i+1)=l.take i++[l[i]]:=(CR d).symm;generalize l[i]=m at e j;refine(O 6∘Zv (Do m.cells e)∘Zn) ?_;rintro L Q I C f;refine(Zs C (hlt:=Bq _)) ?_;rintro E n y;refine(O 4) ?_;replace n:Bk E L 60 m.cells:=n;have D:Bf wr E:=Bv f y f.size (fun k T=>by grind);refine(O 1∘GZ (t.trans D) (a.ext D)) ?_;rintro _ P N G r _ _;refine(O 7)<|Lb ((i+1),P,N) ?_;refine⟨d,?_,r⟩;rw[j,DX,Ma,bv];omega
  .obtain rfl:i=Aim l:=J;rw[DA (Bq _)]at a;refine(O 6∘Bu) ?_;exact⟨Bp.more a g.size,g.trans t⟩
end
noncomputable def DS(l:Ae M)(ns:Ae Nt):Ae M:=open Classical in if h:∃out,IsMap M.path (Ha l ns) out then h.choose else[]
def Uk{l:Ae M}{ns:Ae Nt}{out:Ae M}(h:IsMap M.path (Ha l ns) out):DS l ns=out:=by
 have a:∃out,IsMap M.path (Ha l ns) out:=⟨out,h⟩;unfold DS;rw[AQ a];exact IsMap.one a.choose_spec h
structure VOk(V:Vl)(k:Y):Prop where
 dev:V.D.Ok
 sm:Sm V.D k
 gen:0<=V.gen/\V.gen<=4611686018427387905
 next:0<=V.next/\V.next<=20
 ok:∀m∈V.mems,m.Ok
 len:Aim V.mems<=1000
 path:∀m∈V.mems,Aim m.path<=2000000
noncomputable def Dg(V:Vl)(n:H):Vl×Y:=
 if n<=20-V.next then(V,0)
 else if(DJ V.D (V.gen+1) V.mems).2≠0 then({ V with D:=(DJ V.D (V.gen+1) V.mems).1,broken:=Af },(DJ V.D (V.gen+1) V.mems).2)
 else({ V with D:=(DJ V.D (V.gen+1) V.mems).1,gen:=V.gen+1,next:=0 },0)
noncomputable def Kv(V:Vl)(ns:Ae Nt):Vl×Y:=
 if(FC V.D V.gen V.next ns).2.2≠0 then({ V with D:=(FC V.D V.gen V.next ns).1,broken:=Af },(FC V.D V.gen V.next ns).2.2)
 else({ V with D:=(FC V.D V.gen V.next ns).1,next:=(FC V.D V.gen V.next ns).2.1,mems:=DS V.mems ns },0)
section
variable{w w':Ad}{B vb db:Y}{V V':Vl}{k:Y}
def ak{u:Ah}(h:VAu w B vb db V u)(f:VOk V k)(hk:k<=900000000)(hG:DR w)(n:H)(h0:0<=n/\n<=1000000):Bn prog 54 [.pointer (X ⟨vb,0,Aa⟩),U n] w fun v w'=>v=U (((Dg V n).2:Y):H)/\VAu w' B vb db (Dg V n).1 u/\Tm w w' B vty:=by
 have hb:=h.bk;have G:=h.own;have K:=f.gen;have o:=f.next;have I:=f.len;refine Bw func54 Z ntmps54 Be Z ?_;refine(O 15)<|Zi (fun a=>?_) fun a=>?_
 .have e:Dg V n=(V,0):=Ai a;rw[e];refine(O 4∘Bu) ?_;exact⟨Z,h,Tm.refl _ _ _⟩
 .obtain⟨A,c,rfl,_,m⟩:=G.slice;have P:=mO f.dev f.sm hk B db (V.gen+1) J J V.mems J f.ok A c _ w.drew (hG.ext (Bf.drew w)) (h.dev.ext (Bf.drew w)) (m.ext (Bf.drew w));obtain⟨r,hr⟩:∃r,r=DJ V.D (V.gen+1) V.mems:=⟨_,Z⟩;have e:Dg V n=if r.2≠0 then({ V with D:=r.1,broken:=Af },r.2)else({ V with D:=r.1,gen:=V.gen+1,next:=0 },0):=by rw[hr];exact Ag a
  rw[e];rw[<-hr]at P;refine(O 3∘Yr 15 (fun w'=>Bk w' vb 82 (HC db V (.slice A (Aim V.mems) c))) hb.drew) fun C=>(Gv [0,1,2,3,4,5,6,7,8,9,10,11,12]∘Yc 13 P) ?_;rintro _ l⟨rfl,x,j⟩;refine⟨j.bk C Bc,fun C=>?_⟩;refine(Gv [14]∘Yd∘O 5) ?_;have N:VAu l B vb db { V with D:=r.1 } (.slice A (Aim V.mems) c):=(h.ext (Bf.drew w)).dev_tm x j;have g:Tm w l B vty:=(Tm.Age (Bf.drew w) _ _).trans (Tm.vty j);refine Zi (fun he=>?_) fun he=>?_
  .have t:r.2≠0:=J;rw[Ai t];refine(O 4∘Zc (OU N r.2)) ?_;rintro _ Q⟨rfl,L,S⟩;refine(O 2∘Bu) ?_;rw[show(({ V with D:=r.1 }:Vl).broken||decide (r.2≠0))=Af by grind]at L;exact⟨Z,L,g.trans S⟩
  .rw[Ag J];refine(O 12∘Zt C (hlt:=(by decide:(1:Y)<5))) ?_;rintro Q y q;refine(O 2∘Zt y (hlt:=(by decide:(2:Y)<5))) ?_;rintro E d p;refine(O 5) ?_;have i:Mo l E [vb]:=q.trans p;replace d:Bk E vb 82 (HC db { V with D:=r.1,gen:=V.gen+1,next:=0 } (.slice A (Aim V.mems) c)):=d;refine(Bu) ?_;obtain⟨W,T⟩:=N.put (V':={ V with D:=r.1,gen:=V.gen+1,next:=0 }) d (j.own (G.ext (Bf.drew w)) Bc) i Z;exact⟨Z,W,g.trans T⟩
def Aak(h:VAt w B vb db V)(d:VOk V k)(hk:k<=900000000)(e:DR w)(n:H)(h0:0<=n/\n<=1000000):Bn prog 54 [.pointer (X ⟨vb,0,Aa⟩),U n] w fun v w'=>v=U (((Dg V n).2:Y):H)/\VAt w' B vb db (Dg V n).1/\Tm w w' B vty:=by
 obtain⟨u,a⟩:=h.u;exact(ak a d hk e n h0).mono fun _ _ q=>⟨q.1,q.2.1.at_,q.2.2⟩
def XG(h:VAt w B vb db V)(f:VOk V k)(hk:k<=900000000)(hG:DR w)(N:0<B)(ns:Ae Nt)(x:Aim ns<=1000)(l:∀n∈ns,n.mem.Ok/\Aim n.mem.path<=2000000)(A2:Av AC)(c2 y:Y)(G:Sl w y A2 (CC ns))(E:∀w',Tm w w' B vty->Sl w' y A2 (CC ns)):
 Bn prog 55 [.pointer (X ⟨vb,0,Aa⟩),.slice A2 (Aim ns) c2] w fun v w'=>v=U (((Kv V ns).2:Y):H)/\VAt w' B vb db (Kv V ns).1/\Tm w w' B vty:=by
 obtain⟨u,hb,hu⟩:=h.at_;have af:=f.gen;have I:=f.next;have ab:=f.len;obtain⟨A,c,rfl,_,ai⟩:=hu.slice;have cs:=qV f.dev f.sm hk B db V.gen V.next J J J J ns J (fun n x=>(l n x).1) A2 c2 y w.drew (h.dev.ext (Bf.drew w)) (G.ext (Bf.drew w));unfold Kv;obtain⟨r,hr⟩:∃r,r=FC V.D V.gen V.next ns:=⟨_,Z⟩;rw[<-hr]at cs;rw[<-hr];refine Bw func55 Z ntmps55 Be Z ?_;refine(O 5∘Yr 19 (fun w'=>Bk w' vb 82 (HC db V (.slice A (Aim V.mems) c))) hb.drew) fun T=>(Gv [0,1,2,3,4,5,6,7,8,9,10,11,12]∘Yc 13 cs) ?_;rintro _ q⟨rfl,Q,t⟩;refine⟨t.bk T Bc,fun T=>?_⟩;refine(Gv [14,15,16,17,18]∘Yd∘O 6) ?_;have h1:VAt q B vb db { V with D:=r.1 }:=(h.ext (Bf.drew w)).dev_tm Q t;have a:Tm w q B vty:=(Tm.Age (Bf.drew w) _ _).trans (Tm.vty t);refine Zi (fun he=>?_) fun he=>?_
 .have P:r.2.2≠0:=J;rw[Ai P];refine(O 4∘Zc (Yh h1 r.2.2)) ?_;rintro _ w2⟨rfl,h2,t2⟩;refine(O 2∘Bu) ?_;rw[show(({ V with D:=r.1 }:Vl).broken||decide (r.2.2≠0))=Af by grind]at h2;exact⟨Z,h2,a.trans t2⟩
 .rw[Ag J];have C:=t.own (hu.ext (Bf.drew w)) Bc;obtain⟨A',c',e',_,i⟩:=C.slice;cases e';refine(O 11∘Zc (bA V.mems f.path J ns (fun n x=>(l n x).2) J A A2 c c2 _ y q (LD hG a N) i (E q a))) ?_;rintro v2 w2⟨g,m,j,d⟩;refine(O 2) ?_;have p:=T.ext d;refine(Zt p (hlt:=(by decide:(2:Y)<5))) ?_;rintro w3 S L;refine(O 2∘Zt S (hlt:=(by decide:(3:Y)<5))) ?_;rintro W e K;refine(O 5) ?_;have o:Mo w2 W [vb]:=L.trans K;rw[Uk m];replace e:Bk W vb 82 (HC db { V with D:=r.1,next:=r.2.1,mems:=g } v2):=e;refine(Bu) ?_;obtain⟨q1,q2⟩:=(h1.ext d).put (V':={ V with D:=r.1,next:=r.2.1,mems:=g }) p e (Bp.more j (BF h.dev.lt.1 (OB (Kj h.dev.lt.2 a.size)))) o Z;exact⟨Z,q1,a.trans ((Tm.Age d _ _).trans q2)⟩
end
def xx(e:Y)(p:Bg)(m:M)(w:Ad)(i:Bk w e 9 [Bj p]):Bn prog 86 [.agg m.cells.toArray,.pointer (X ⟨e,0,Aa⟩)] w fun v w'=>v=.bool (decide (m.path=p))/\Bf w w':=by
 refine Bw func86 Z ntmps86 (by rfl) Z ?_;refine(O 2) ?_;refine DB Z Z Z ?_;rintro h g f a d;refine(O 5) ?_;replace a:Bk g h 60 m.cells:=a;refine(O 1∘Zv (Bo (i.ext d))∘O 3∘Bu) ?_;grind
def Pa(l:Ae M)(p:Bg):H:=if l.findIdx (fun m=>decide (m.path=p))<Aim l then((l.findIdx (fun m=>decide (m.path=p)):Y):H)else -1
def vh(l:Ae M)(hl:Aim l<=1000000)(p:Bg)(n:Y)(A:Av AC)(c B:Y)(w:Ad)(x:Sl w B A (DH l))(C:Bk w n 9 [Bj p]):
 Bn prog 85 [.slice A (Aim l) c,.func (.func 86) #[] #[.pointer (X ⟨n,0,Aa⟩)]] w fun v w'=>v=U (Pa l p)/\Bf w w':=by
 refine Bw func85 Z ntmps85 (by rfl) Z ?_;refine(O 12)<|Lo (fun((i,wr):Y×Ad)=>(i<=Aim l/\(∀m∈l.take i,m.path≠p)/\Bf w wr,[(0,.slice A (Aim l) c),(1,.func (.func 86) #[] #[.pointer (X ⟨n,0,Aa⟩)]),(7,U ((Aim l:Y):H)),(8,U i)],wr,Aim l-i)) (0,w) ?_ ?_
 .exact⟨BD _,(fun m G=>by grind),Bf.refl _⟩
 .rintro⟨i,wr⟩⟨K,h,g⟩;refine(O 5)<|Zi (fun a=>?_) fun a=>?_
  .obtain⟨b,o,rfl,_,d⟩:=(x.ext g).flat (l:=l) (i:=i) (c:=5) (fun _=>rfl) Bc a;have q:l.take (i+1)=l.take i++[l[i]]:=(CR a).symm
   have r:l[i].path=p->l.findIdx (fun m=>decide (m.path=p))=i:=fun e=>by
    refine(List.findIdx_eq a).2 ⟨Bh,fun j I=>?_⟩;have:=h l[j] (by rw[List.mem_take_iff_getElem];grind);grind
   generalize l[i]=m at d q r;refine(O 14∘Zv (Do m.cells d)∘Ea (xx n p m wr (C.ext g))) ?_;rintro _ t⟨rfl,f⟩;refine(O 1)<|Zi (fun D=>?_) fun D=>?_
   .refine(O 5∘Bu) ?_;refine⟨?_,g.trans f⟩;unfold Pa;grind
   .refine(O 6)<|Lb ((i+1),t) ?_;refine⟨a,fun y E=>?_,g.trans f⟩;grind
  .obtain rfl:i=Aim l:=J;rw[DA (Bq _)]at h;refine(O 5∘Bu) ?_;refine⟨?_,g⟩;unfold Pa;grind
def NG:M:=⟨[],0,0,0,0⟩
noncomputable def CO(V:Vl)(p:Bg):M×Y:=if V.broken=Af∨V.D.dead=Af then(NG,190)else if Cy p≠0 then(NG,140)else match V.mems.find? (fun m=>decide (m.path=p))with
 |none=>(NG,240)
 |some m=>(m,0)
def uj(l:Ae M)(p:Bg):(l.find? (fun m=>decide (m.path=p))=Aa/\Pa l p=-1)∨∃i,∃h:i<Aim l,l.find? (fun m=>decide (m.path=p))=X l[i]/\Pa l p=(i:H):=by
 unfold Pa;by_cases q:l.findIdx (fun m=>decide (m.path=p))<Aim l
 .refine .inr ⟨_,q,?_,J⟩;rw[List.find?_eq_some_iff_getElem];grind
 .grind
section
variable{w w':Ad}{B vb db:Y}{V V':Vl}{k:Y}
def Zj(h:VAt w B vb db V)(ho:VOk V k)(p:Bg)(hp:Aim p<=1000000000):Bn prog 53 [.pointer (X ⟨vb,0,Aa⟩),Bj p] w fun v w'=>v=.tuple #[.agg (CO V p).1.cells.toArray,U (((CO V p).2:Y):H)]/\Bf w w':=by
 obtain⟨u,hb,hu⟩:=h.at_;obtain⟨A,c,rfl,_,L⟩:=hu.slice;have a0:=ho.len;refine Bw func53 Z ntmps53 Be Z ?_;refine(O 2) ?_;refine Mh Z Z Z Z ?_;rintro pb w1 a2 ab I;refine(Zn) ?_;rintro tb w2 a1 K G;refine(O 6) ?_;have E:=I.trans G;have z1:=I.size;have h2:=h.ext E;have ao:=hb.ext E;have S:=Xc h2 ho.dev;have y:∀e r,Bf w r->CO V p=(NG,e)->(Value.tuple #[.agg NG.cells.toArray,U ((e:Y):H)]=.tuple #[.agg (CO V p).1.cells.toArray,U (((CO V p).2:Y):H)]/\Bf w r):=fun e r hx q=>by grind
 by_cases P:V.broken=Af∨V.D.dead=Af
 .rw[Ai P]at S;have e:CO V p=(NG,190):=Ai P;refine(Zc S) ?_;rintro _ _⟨rfl,rfl⟩;refine(O 7∘If 11∘O 5∘Zs K (hlt:=Bq _)) ?_;rintro r n ai;refine(O 2∘Du n) ?_;exact y 190 r (Bv E ai E.size Bx) e
 .rw[Ag P]at S;refine(Zc S) ?_;rintro _ _⟨rfl,rfl⟩;refine(O 7∘Cd 11∘O 5) ?_;have W:=ab.ext G;refine(O 1∘Zc (OM p J w2)) ?_;rintro _ r⟨rfl,g⟩;refine(O 2) ?_;have n:=K.ext g;have al:=ao.ext g;have Q:=E.trans g;refine Zi (fun hc=>?_) fun hc=>?_
  .have e:CO V p=(NG,140):=by
    unfold CO;rw[Ag P,Ai J]
   refine(O 3∘Zs n (hlt:=Bq _)) ?_;rintro w4 j af;refine(O 2∘Du j) ?_;exact y 140 w4 (Bv Q af Q.size Bx) e
  .refine(O 8∘Zv (by exact Gc Z Z)∘Zc (vh V.mems J p pb A c _ r (L.ext Q) (W.ext g))) ?_;rintro _ w4⟨rfl,t⟩;refine(O 8) ?_;have j:=n.ext t;have a3:=al.ext t;have C:=Q.trans t
   have e0:CO V p=match V.mems.find? (fun m=>decide (m.path=p))with|none=>(NG,240)|some m=>(m,0):=by
    unfold CO;rw[Ag P,Ag J]
   have N:=uj V.mems p;generalize Pa V.mems p=ix at N;refine Zi (fun aj=>?_) fun aj=>?_
   .have e:CO V p=(NG,240):=by
     rcases N with⟨f,_⟩|⟨i,hi,_,f⟩
     .grind
     .omega
    refine(O 3∘Zs j (hlt:=Bq _)) ?_;rintro T a x;refine(O 2∘Du a) ?_;exact y 240 T (Bv C x C.size Bx) e
   .obtain⟨i,hi,hf,rfl⟩:∃i,∃h:i<Aim V.mems,V.mems.find? (fun m=>decide (m.path=p))=X V.mems[i]/\ix=(i:H):=by
     grind
    rw[hf]at e0;simp only at e0;rw[e0];obtain⟨b,o,rfl,_,d⟩:=(L.ext C).flat (l:=V.mems) (i:=i) (c:=5) (fun _=>rfl) Bc hi;generalize V.mems[i]=m at d;refine(O 10∘Zv (Do m.cells d)∘Zs j (hlt:=Bq _)) ?_;rintro T a x;refine(O 2) ?_;replace a:Bk T tb 60 m.cells:=a;refine(Du a) ?_;exact⟨Z,Bv C x C.size Bx⟩
end
def Abn{D:Dv}{gen:H}{l:Ae M}(h:(DJ D gen l).2=0):OkE gen l/\OkC l D.cap:=by
 by_cases q:OkE gen l/\OkC l D.cap
 .omega
 .rw[mM q]at h;omega
def ah{V:Vl}{k:Y}(a:VOk V k)(n:H):VOk (Dg V n).1 (k+6)/\(Dg V n).1.mems=V.mems:=by
 unfold Dg;split
 .exact⟨⟨a.dev,a.sm.more (Nat.le_add_right _ _),a.gen,a.next,a.ok,a.len,a.path⟩,Z⟩
 .split
  .exact⟨⟨mN a.dev _ _,mP a.sm _ _,a.gen,a.next,a.ok,a.len,a.path⟩,Z⟩
  .rename_i h;have d:=(Abn (Dm.1 h)).1;have f:=d.low;have e:=d.high;have:=a.gen;exact⟨⟨mN a.dev _ _,mP a.sm _ _,Bh,Bl,a.ok,a.len,a.path⟩,Z⟩
noncomputable def Ky(V:Vl)(p:Bg):Vl×Y:=
 if(CO V p).2≠0 then(V,(CO V p).2)else if(Dg V 2).2≠0 then Dg V 2 else Kv (Dg V 2).1 [⟨2,bare p⟩]
section
variable{w w':Ad}{B vb db:Y}{V V':Vl}{k:Y}
def fQ(h:VAt w B vb db V)(x:VOk V k)(hk:k<=800000000)(G:DR w)(l:0<B)(p:Bg)(hp:Aim p<=1000000):Bn prog 26 [.pointer (X ⟨vb,0,Aa⟩),Bj p] w fun v w'=>v=U (((Ky V p).2:Y):H)/\VAt w' B vb db (Ky V p).1/\Tm w w' B vty:=by
 obtain⟨j,q⟩:=ah x 2;have C:=Zj h x p J;unfold Ky;generalize(CO V p).2=e at C;generalize(CO V p).1=m at C;refine Bw func26 Z ntmps26 Be Z ?_;refine(O 9∘Zc C) ?_;rintro _ w1⟨rfl,f⟩;refine(O 3∘Zn) ?_;rintro mb w2 E A i;refine(Zs A (hlt:=Bq _)) ?_;rintro P ab y;refine(O 7) ?_;have o:Bf w P:=Bv (f.trans i) y (f.trans i).size (by simp;have:=f.size;omega);have I:=h.ext o;refine Zi (fun he=>?_) fun he=>?_
 .rw[Ai (show e≠0 by omega)];refine(O 5∘Bu) ?_;exact⟨Z,I,Tm.Age o _ _⟩
 .rw[Ag (show ¬e≠0 by omega)];have K:=Aak I x J (G.ext o) 2 Bc;generalize Dg V 2=r at K j q;refine(O 7∘Zc K) ?_;rintro _ N⟨rfl,h4,S⟩;refine(O 7) ?_;have g:Tm w N B vty:=(Tm.Age o _ _).trans S;refine Zi (fun T=>?_) fun T=>?_
  .rw[Ai (show r.2≠0 by omega)];refine(O 5∘Bu) ?_;grind
  .rw[Ag (show ¬r.2≠0 by omega)];refine(O 8∘Zv (by exact Od (pl:=[(0,1),(1,5)]) (ks:=[0,1]) (zs:=[U 0,Bj [],U 0,U 0,U 0,.int .u32 0]) underlying116 MU Be Z Z Z)) ?_;refine Mi 1 ([(⟨2,bare p⟩:Nt).cells]) Z Z underlying93 MU Z Bc Z Z Z (by repeat' (first|exact La _|refine KZ.2 ⟨by rfl,?_⟩)) Bc ?_;rintro nb L D a d;replace a:Bk L nb 116 (CC [⟨2,bare p⟩]):=a;refine(Zc (XG (h4.ext d) j J ((LD G g l).ext d) l [⟨2,bare p⟩] Bl (fun n W=>by rw[CG.1 W];exact⟨⟨by show Aim p<=_;omega,by show 0<=4294967295;decide⟩,by show Aim p<=_;omega⟩) (X ⟨nb,0,Aa⟩) 1 (nb+1) (Sl.Agf a (OC _)) (fun w' t=>Sl.Agf (t.bk a Bc) (OC _)))) ?_;rintro _ w6⟨rfl,h6,Q⟩;refine(O 2∘Bu) ?_;exact⟨Z,h6,g.trans ((Tm.Age d _ _).trans Q)⟩
end
noncomputable def Ff(V:Vl):H:=open Classical in if OkX (BV V.mems) 4096 then JK (BV V.mems)else 30
noncomputable def KM(V:Vl):Vl×Y:=
 if V.broken=Af∨V.D.dead=Af then(V,190)
 else if((Aim V.D.now/512:Y):H)<=Ff V then(V,0)
 else if(V.D.cut (Ff V)).2≠0 then({ V with D:=(V.D.cut (Ff V)).1,broken:=Af },(V.D.cut (Ff V)).2)
 else({ V with D:=(V.D.cut (Ff V)).1.sync.1,broken:=V.broken||decide ((V.D.cut (Ff V)).1.sync.2≠0) },(V.D.cut (Ff V)).1.sync.2)
def gh(V:Vl):30<=Ff V/\Ff V<=4096:=by
 unfold Ff;split
 .rename_i d;exact⟨(Ya _).1,gi Bc fun x a=>by have:=d.fit x a;unfold Ht at this;omega⟩
 .simp
def sH{D:Dv}{k:Y}(h:Sm D k)(n:H):Sm (D.cut n).1 (k+1):=by
 unfold Dv.cut;split
 .exact h.more (Qk _)
 .split
  .exact h.more (Qk _)
  .exact XU h _
section
variable{w w':Ad}{B vb db:Y}{V V':Vl}{k:Y}
def ow(h:VAt w B vb db V)(f:VOk V k)(hk:k<=800000000):Bn prog 31 [.pointer (X ⟨vb,0,Aa⟩)] w fun v w'=>v=U (((KM V).2:Y):H)/\VAt w' B vb db (KM V).1/\Tm w w' B vty:=by
 have y:=Xc h f.dev;have af:=f.len;have n:=gh V;have ab:=f.dev.now;have ai:=f.dev.cap;refine Bw func31 Z ntmps31 Be Z ?_;refine(O 8) ?_;by_cases q:V.broken=Af∨V.D.dead=Af
 .rw[Ai q]at y;have e:KM V=(V,190):=Ai q;rw[e];refine(Zc y) ?_;rintro _ _⟨rfl,rfl⟩;refine(O 7∘If 9∘O 6∘Bu) ?_;exact⟨Z,h,Tm.refl _ _ _⟩
 .rw[Ag q]at y;have e0:KM V=if((Aim V.D.now/512:Y):H)<=Ff V then(V,0)else if(V.D.cut (Ff V)).2≠0 then({ V with D:=(V.D.cut (Ff V)).1,broken:=Af },(V.D.cut (Ff V)).2)else({ V with D:=(V.D.cut (Ff V)).1.sync.1,broken:=V.broken||decide ((V.D.cut (Ff V)).1.sync.2≠0) },(V.D.cut (Ff V)).1.sync.2):=Ag q;rw[e0];refine(Zc y) ?_;rintro _ _⟨rfl,rfl⟩;refine(O 7∘Cd 9∘O 7∘Zc (UJ h J)) ?_;rintro v1 w1⟨m,K⟩;obtain⟨A1,A,rfl,_,G⟩:=m.slice;have x:=Acj (BV V.mems) (by rw[Mu];omega) A1 A _ w1 G;rw[Mu]at x;have p:(if OkX (BV V.mems) 4096 then JK (BV V.mems)else 30)=Ff V:=by unfold Ff;split<;>rfl
  rw[p]at x;generalize Ff V=z at n x;refine(Zc x) ?_;rintro _ w2⟨rfl,I⟩;refine(O 9) ?_;have C:=K.trans I;have o:=h.ext C;obtain⟨u,hb,hu⟩:=o.at_;refine(O 1∘Zc (Pf o.dev f.dev)) ?_;rintro _ _⟨rfl,rfl⟩;refine(O 3)<|Zi (fun g=>?_) fun g=>?_
  .rw[Ai g];refine(O 4∘Bu) ?_;exact⟨Z,o,Tm.Age C _ _⟩
  .rw[Ag g];have cc:=cut_d o.dev f.dev (f.sm.small J) z J J;have A:=sG f.dev z;have c2:=sH f.sm z;generalize V.D.cut z=r at cc A c2;refine(O 10∘Zc cc) ?_;rintro _ i⟨rfl,Q,E⟩;refine(O 7) ?_;have T:VAt i B vb db { V with D:=r.1 }:=o.dev_tm Q E;have l:Tm w i B vty:=(Tm.Age C _ _).trans (Tm.vty E);refine Zi (fun he=>?_) fun he=>?_
   .have L:r.2≠0:=J;rw[Ai L];refine(O 6∘Zc (Yh T r.2)) ?_;rintro _ W⟨rfl,t,j⟩;refine(O 2∘Bu) ?_;rw[show(({ V with D:=r.1 }:Vl).broken||decide (r.2≠0))=Af by grind]at t;exact⟨Z,t,l.trans j⟩
   .rw[Ag (show ¬r.2≠0 by omega)];have cs:=Rs (T.dev.ext (Bf.drew i)) A (c2.small J);have S:=E.bk hb Bc;obtain⟨s,hs⟩:∃s,s=r.1.sync:=⟨_,Z⟩;rw[<-hs]at cs;rw[<-hs];refine KW.skip (Ek ?_);refine Qb (N:=11) (fun w'=>∃(bk:Aw) (u':Ah),Bk w' vb 82 (HC db { V with broken:=bk } u')) Be Z ?_;have d:=(⟨V.broken,u,S.drew⟩:∃(bk:Aw) (u':Ah),Bk i.drew vb 82 (HC db { V with broken:=bk } u'));refine GW.val 0 Z Be Be Be Z Z d (fun w' a=>EX.move Z) ?_;refine GW.val 1 Z Be Be Be Z Z d (fun w' a=>DV Z) ?_;refine GW.val 2 Z Be Be Be Z Z d (fun w' a=>Dn (off:=0) underlying82 Z Z VP Z Z) ?_;refine GW.val 3 Z Be Be Be Z Z d (fun w' a=>EX.move Z) ?_;refine GW.val 4 Z Be Be Be Z Z d (fun w' a=>DV Z) ?_;refine GW.val 5 Z Be Be Be Z Z d (fun w' a=>Dn (off:=0) underlying82 Z Z VP Z Z) ?_;refine GW.val 6 Z Be Be Be Z Z d (fun w' a=>Dn (off:=0) underlying80 Z Z bg Z Z) ?_;refine GW.val 7 Z Be Be Be Z Z d (fun w' a=>Cg underlying26 Z Z (Exists.elim a fun _ h=>Exists.elim h fun _ h=>h.cell_of Z)) ?_;refine GW.call 8 Z Be Z Z Z (cs) ?_;rintro _ W⟨rfl,P,j⟩;refine⟨d.imp fun _ h=>h.imp fun _ h=>j.bk h Bc,fun d=>?_⟩;have t:VAt W B vb db { V with D:=s.1 }:=(T.ext (Bf.drew i)).dev_tm P j;refine(Yc 9 (Yh t s.2)) ?_;rintro _ w5⟨rfl,h5,t5⟩;refine⟨⟨_,h5.at_.imp fun _ h=>h.1⟩,fun d=>?_⟩;refine(Gv [10]∘Yd∘Bu) ?_;exact⟨Z,h5,l.trans ((Tm.Age (Bf.drew i) _ _).trans ((Tm.vty j).trans t5))⟩
end
def Nz(a b:H):Y->Y->Dv->Dv×Y
 |0,_,D=>(D,0)
 |n+1,i,D=>if(D.read (a+i)).2.2≠0 then((D.read (a+i)).1,(D.read (a+i)).2.2)
  else if((D.read (a+i)).1.write (b+i) (D.read (a+i)).2.1).2≠0 then(D.read (a+i)).1.write (b+i) (D.read (a+i)).2.1
  else Nz a b n (i+1) ((D.read (a+i)).1.write (b+i) (D.read (a+i)).2.1).1
def Vl.fail(V:Vl)(D:Dv)(e:Y):Vl×Y:=({ V with D:=D,broken:=Af },e)
noncomputable def Mm(R:Vl)(c:Dv×Y)(ns:Ae Nt):Vl×Y:=
 if c.2≠0 then R.fail c.1 c.2 else if c.1.sync.2≠0 then R.fail c.1.sync.1 c.1.sync.2 else Kv { R with D:=c.1.sync.1 } ns
def Xa{R:Vl}{c:Dv×Y}{ns:Ae Nt}(h:c.2≠0):Mm R c ns=R.fail c.1 c.2:=Ai h
def Xb(R:Vl)(D:Dv)(ns:Ae Nt):Mm R (D,0) ns=if D.sync.2≠0 then R.fail D.sync.1 D.sync.2 else Kv { R with D:=D.sync.1 } ns:=Ag fun h=>h Z
def lW{D:Dv}(h:D.Ok)(i:H):(D.read i).1.Ok:=by
 unfold Dv.read;split
 .exact h
 .split
  .exact h
  .exact⟨h.cap,h.kept,h.now,h.keptM,h.nowM,h.pend⟩
def zB{D:Dv}{k:Y}(h:Sm D k)(i:H):Sm (D.read i).1 (k+1):=by
 unfold Dv.read;split
 .exact h.more (Qk _)
 .split
  .exact h.more (Qk _)
  .exact⟨Nat.succ_le_succ h.calls,TW h.pend,h.at_,h.keep⟩
def zA{D:Dv}(i:H):Aim (D.read i).2.1<=512:=by
 unfold Dv.read;grind
noncomputable def Hx(V:Vl)(p:Bg)(tt:H):Vl×Y:=open Classical in
 if(CO V p).2≠0 then(V,(CO V p).2)
 else if ¬OkX (BV V.mems++[(tt,(CO V p).1.sectors)]) V.D.cap then(V,2)
 else if(Dg V 2).2≠0 then Dg V 2
 else Mm (Dg V 2).1 (Nz (CO V p).1.start tt (CO V p).1.sectors.toNat 0 (Dg V 2).1.D) [⟨1,{ (CO V p).1 with start:=tt }⟩]
def kz{V:Vl}{p:Bg}(h:(CO V p).2=0):(CO V p).1∈V.mems/\(CO V p).1.path=p:=by
 unfold CO at h ⊢;grind
def QF{l:Ae M}{m:M}(h:m∈l):(m.start,m.sectors)∈BV l:=Ck.2 ⟨m,h,Z⟩
section
variable{w w':Ad}{B vb db:Y}{V V':Vl}{k:Y}
def Zp(h:VAt w B vb db V)(ho:VOk V k)(hk:k<=800000000)(hG:DR w)(bn:0<B)(p:Bg)(hp:Aim p<=1000000)(l:H)(t0:-9223372036854775808<=l)(t1:l<=9223372036854775807):Bn prog 30 [.pointer (X ⟨vb,0,Aa⟩),Bj p,U l] w fun v w'=>v=U (((Hx V p l).2:Y):H)/\VAt w' B vb db (Hx V p l).1/\Tm w w' B vty:=by
 obtain⟨A,cd⟩:=ah ho 2;have cm:=Zj h ho p J;have co:=ho.len;have aj:=@kz V p;unfold Hx;generalize(CO V p).2=e at cm aj;generalize(CO V p).1=m at cm aj;refine Bw func30 Z ntmps30 Be Z ?_;refine(O 8∘Zc cm) ?_;rintro _ wa⟨rfl,G⟩;refine(O 3∘Zn) ?_;rintro W wb bq cl bf;refine(Zs cl (hlt:=Bq _)) ?_;rintro wc a0 cf;refine(O 8) ?_;replace a0:Bk wc W 60 m.cells:=a0;have xc:Bf w wc:=Bv (G.trans bf) cf (G.trans bf).size (by simp;have:=G.size;omega);have hc:=h.ext xc;have cq:=ho.dev.cap;refine Zi (fun E=>?_) fun E=>?_
 .rw[Ai (show e≠0 by omega)];refine(O 5∘Bu) ?_;exact⟨Z,hc,Tm.Age xc _ _⟩
 .rw[Ag (show ¬e≠0 by omega)];obtain⟨u,b1⟩:=hc.u;have hb:=b1.bk
  have cs:∀k,u.ownBlock=X k->k≠W:=fun k hk=>by
   obtain⟨_,⟨u0,q1,q2⟩,_⟩:=h
   have e0:u0=u:=by
    have a:=(q1.ext xc).cell_of (i:=3) Z;have b:=hb.cell_of (i:=3) Z;rw[a]at b;exact Ns.inj b
   rw[<-e0]at hk;have:=(q2.lt k hk).2;have:=G.size;omega
  have b9:=Mu V.mems;obtain⟨j0,hX⟩:∃j0,j0=BV V.mems++[(l,m.sectors)]:=⟨_,Z⟩;have b6:Aim j0=Aim V.mems+1:=by rw[hX,BA,b9];rfl
  have b5:Eg j0=Eg (BV V.mems)++[xcells (l,m.sectors)].flatten:=by rw[hX,PN];simp
  rw[<-hX];refine(O 3)<|Lc (fun((_u,wz):Unit×Ad)=>(Bf wc wz,[(0,.pointer (X ⟨vb,0,Aa⟩)),(2,U (l:H)),(7,.pointer (X ⟨W,0,Aa⟩)),(41,.bool (decide ((¬Je j0 V.D.cap=0))))],wz)) ?_ ?_
  .skip
   refine(Yr 18 (fun w'=>Bf wc w') (Bf.drew wc)) fun d=>(Gv [0,1,2,4,5]∘Yw 6 (he:=by exact fun _ P=>Bo (a0.ext P))∘Gv [7,10,11,12,13]∘Yw 14 (he:=by exact fun _ P=>Bo (hb.ext P)))<|Ye 3 8 ?_ ?_
   .refine(Jc 3 ((UJ (hc.ext d) J).mono fun _ _ q=>HZ (Bp.more q.1 d.size) q.2)) ?_;rintro v3 w3⟨o,ai⟩;refine⟨d.trans ai,fun d=>?_⟩;refine Gu 8 1 ([xcells (l,m.sectors)]) Z Be Z Z underlying118 LL Z Bc Z Z Z (by first|(intro v Q;obtain⟨f,hf,rfl⟩:=Ck.1 Q;rfl)|(simp;done)|(simp;rfl)) Bc ?_;rintro eb w8 bs h8 af;refine⟨d.trans af,fun d=>?_⟩;have o:=o.ext af;refine GW.append 9 0 Z Be Z Z underlying118 LL Z Bc Z Z (o.more (BD _)) (Src.Agh (m:=1) underlying118 (Sl.Agf h8 h8.lt) Z (VW [(l,m.sectors)]) Bc) CE J (BD _) ?_;rintro v9 w9 g ba cc;obtain⟨A9,c9,rfl,_,_⟩:=g.slice;refine⟨d.grown ba fun k hk=>(o.lt k hk).1,fun d=>?_⟩;refine(Yc 15 (Ij (hc.ext d).dev ho.dev)) ?_;rintro _ _⟨rfl,rfl⟩;refine⟨d,fun d=>?_⟩;refine(Yc 16 (by have:=Tf j0 J V.D.cap A9 c9 _ w9 (by obtain⟨_,_,e9,_,sl⟩:=g.slice;cases e9;rw[b5];exact sl);rw[b6]at this;exact this)) ?_;rintro _ a4⟨rfl,y⟩;refine⟨d.trans y,fun d=>?_⟩;have g:=g.ext y;refine(Gv [17]∘Yd∘Lm ((),a4)) ?_;exact d
   .refine TC 8 1 ([xcells (l,m.sectors)]) Z Z Z underlying118 LL Z Bc Z Z Z (by first|(intro v Q;obtain⟨f,hf,rfl⟩:=Ck.1 Q;rfl)|(simp;done)|(simp;rfl)) Bc ?_;rintro eb w8 bs h8 af;refine⟨d.trans af,fun d=>?_⟩;refine(Yc 3 ((UJ (hc.ext d) J).mono fun _ _ q=>HZ (Bp.more q.1 d.size) q.2)) ?_;rintro v3 w3⟨o,ai⟩;refine⟨d.trans ai,fun d=>?_⟩;have h8:=h8.ext ai;refine GW.append 9 0 Z Be Z Z underlying118 LL Z Bc Z Z (o.more (BD _)) (Src.Agh (m:=1) underlying118 (Sl.Agf h8 h8.lt) Z (VW [(l,m.sectors)]) Bc) CE J (BD _) ?_;rintro v9 w9 g ba cc;obtain⟨A9,c9,rfl,_,_⟩:=g.slice;refine⟨d.grown ba fun k hk=>(o.lt k hk).1,fun d=>?_⟩;refine(Yc 15 (Ij (hc.ext d).dev ho.dev)) ?_;rintro _ _⟨rfl,rfl⟩;refine⟨d,fun d=>?_⟩;refine(Yc 16 (by have:=Tf j0 J V.D.cap A9 c9 _ w9 (by obtain⟨_,_,e9,_,sl⟩:=g.slice;cases e9;rw[b5];exact sl);rw[b6]at this;exact this)) ?_;rintro _ a4⟨rfl,y⟩;refine⟨d.trans y,fun d=>?_⟩;have g:=g.ext y;refine(Gv [17]∘Yd∘Lm ((),a4)) ?_;exact d
  .rintro⟨_,wz⟩a6;have xz:=xc.trans a6;have hz:=b1.ext a6;have cj:=a0.ext a6;refine Zi (fun N=>?_) fun N=>?_
   .rw[Ai (fun q=>N ((Rp j0 V.D.cap).2 q))];refine(O 4∘Bu) ?_;exact⟨Z,hz.at_,Tm.Age xz _ _⟩
   .have a7:OkX j0 V.D.cap:=(Rp j0 V.D.cap).1 (Dm.1 N);rw[Ag (Dm.2 a7)];have b0:=a7.fit (m.start,m.sectors) (by rw[hX];exact TQ _ (QF (aj J).1));have bx:=a7.fit (l,m.sectors) Bh;unfold Ht at b0 bx;simp only at b0 bx;have cr:=ak hz ho J (hG.ext xz) 2 Bc;have bh:=A.sm;have bi:=A.dev;generalize Dg V 2=R at cr A cd bh bi;refine(O 7∘Zc cr) ?_;rintro _ wd⟨rfl,hd,td⟩;refine(O 7) ?_;have a5:Tm w wd B vty:=(Tm.Age xz _ _).trans td;have ck:=td.bk cj Bc;refine Zi (fun b8=>?_) fun b8=>?_
    .rw[Ai (show R.2≠0 by omega)];refine(O 5∘Bu) ?_;exact⟨Z,hd.at_,a5⟩
    .rw[Ag (show ¬R.2≠0 by omega)];refine(O 9) ?_;obtain⟨n,hn⟩:∃n,n=m.sectors.toNat:=⟨_,Z⟩;rw[<-hn];refine Lo (fun((i,D,wr):Y×Dv×Ad)=>(i<=n/\Nz m.start l n 0 R.1.D=Nz m.start l (n-i) i D/\D.Ok/\Sm D (k+6+2*i)/\VAu wr B vb db { R.1 with D:=D } u/\Bk wr W 60 m.cells/\Tm wd wr B vty,[(0,.pointer (X ⟨vb,0,Aa⟩)),(2,U (l:H)),(7,.pointer (X ⟨W,0,Aa⟩)),(50,U (m.sectors:H)),(51,U i)],wr,n-i)) (0,R.1.D,wd) ?_ ?_
     .exact⟨BD _,Z,bi,bh,hd,ck,Tm.refl _ _ _⟩
     .rintro⟨i,D,wr⟩⟨hi,j,a2,a1,Q,b3,tr⟩;refine(O 5)<|Zi (fun a9=>?_) fun a9=>?_
      .obtain⟨f,hf⟩:∃f,n-i=f+1:=⟨n-i-1,J⟩;rw[hf]at j;rw[Nz]at j;have b2:=Q.bk;have cr:=lV (Q.dev.ext (Bf.drew wr)) a2 (a1.small J) (m.start+i) J J;have c1:=lW a2 (m.start+i);have c2:=zB a1 (m.start+i);have c3:=zA (D:=D) (m.start+i);generalize D.read (m.start+i)=r at j cr c1 c2 c3;refine(O 9∘Yr 15 (fun w'=>Bk w' vb 82 (HC db { R.1 with D:=D } u)/\Bk w' W 60 m.cells) (HZ b2.drew b3.drew)) fun d=>(Gv [0,1,2,3,4,5,6,7,8]∘Yc 9 cr) ?_;rintro _ we⟨rfl,al,T⟩;refine⟨⟨T.bk d.1 Bc,T.bk d.2 Bc⟩,fun d=>?_⟩;refine(Gv [10,11,12,13,14]∘Yd∘O 6) ?_;have E:VAu we B vb db { R.1 with D:=r.1 } u:=(Q.ext (Bf.drew wr)).dev_tm al T;have K:Tm w we B vty:=a5.trans (tr.trans ((Tm.Age (Bf.drew wr) _ _).trans (Tm.vty T)));refine Zi (fun cg=>?_) fun cg=>?_
       .have a3:r.2.2≠0:=J;rw[Ai a3]at j;rw[j,Xa (c:=(r.1,r.2.2)) a3];refine(O 6∘Zc (OU E r.2.2)) ?_;rintro _ I⟨rfl,C,tf⟩;refine(O 2∘Bu) ?_;rw[show(({ R.1 with D:=r.1 }:Vl).broken||decide (r.2.2≠0))=Af by grind]at C;exact⟨Z,C.at_,K.trans tf⟩
       .rw[Ag (show ¬r.2.2≠0 by omega)]at j;have cw:=Tq al c1 (c2.small J) (l+i) J J r.2.1 J;have c4:=NZ c1 (l+i) r.2.1;have c5:=PM c2 (l+i) r.2.1;generalize r.1.write (l+i) r.2.1=s at j cw c4 c5;refine(O 7∘Zv (Bo d.1)∘O 4∘Zc cw) ?_;rintro _ I⟨rfl,ch,tf⟩;refine(O 7) ?_;have C:VAu I B vb db { R.1 with D:=s.1 } u:=E.dev_tm ch tf;have S:Tm w I B vty:=K.trans (Tm.vty tf);refine Zi (fun bb=>?_) fun bb=>?_
        .have x:s.2≠0:=J;rw[Ai x]at j;rw[j,Xa x];refine(O 6∘Zc (OU C s.2)) ?_;rintro _ wg⟨rfl,L,tg⟩;refine(O 2∘Bu) ?_;rw[show(({ R.1 with D:=s.1 }:Vl).broken||decide (s.2≠0))=Af by rw[AM x,Bool.or_true]]at L;exact⟨Z,L.at_,S.trans tg⟩
        .rw[Ag (show ¬s.2≠0 by omega)]at j;refine(O 6)<|Lb ((i+1),s.1,I) ?_;exact⟨J,Bh,c4,c5.more J,C,tf.bk d.2 Bc,tr.trans ((Tm.Age (Bf.drew wr) _ _).trans ((Tm.vty T).trans (Tm.vty tf)))⟩
      .rw[show n-i=0 by omega]at j;rw[Nz]at j;rw[j,Xb];have b2:=Q.bk;have b7:=Rs Q.dev a2 (a1.small J);have c6:=aN a2;have c7:=aO a1;generalize D.sync=s at b7 c6 c7;refine(O 9∘Zc b7) ?_;rintro _ we⟨rfl,al,T⟩;refine(O 7) ?_;have E:VAu we B vb db { R.1 with D:=s.1 } u:=Q.dev_tm al T;have K:Tm w we B vty:=a5.trans (tr.trans (Tm.vty T));refine Zi (fun bb=>?_) fun bb=>?_
       .have x:s.2≠0:=J;rw[Ai x];refine(O 6∘Zc (OU E s.2)) ?_;rintro _ wg⟨rfl,L,tg⟩;refine(O 2∘Bu) ?_;rw[show(({ R.1 with D:=s.1 }:Vl).broken||decide (s.2≠0))=Af by rw[AM x,Bool.or_true]]at L;exact⟨Z,L.at_,K.trans tg⟩
       .rw[Ag (show ¬s.2≠0 by omega)];have b4:=T.bk b3 Bc;refine(O 5∘Zt b4 (hlt:=(by decide:(1:Y)<5))) ?_;rintro I bc a8;refine(O 2) ?_;replace bc:Bk I W 60 ({ m with start:=l }:M).cells:=bc;have bm:B<=W:=BF (BF h.dev.lt.1 (OB h.dev.lt.2)) (BF G.size bq);have t:=Tm.set b4 a8 bm;have C:VAu I B vb db { R.1 with D:=s.1 } u:=⟨E.dev.tm t Bc Bc Bc Bc Bc Bc,t.bk E.bk Bc,E.own.mo a8 fun k hk=>by grind,E.low⟩;have S:Tm w I B vty:=Tm.fresh K a8 (by simp;have:=G.size;omega);have ca:VOk { R.1 with D:=s.1 } (k+6+2*i+1):=⟨c6,c7,A.gen,A.next,A.ok,A.len,A.path⟩;have bl:=aj J;have bj:=ho.ok m bl.1;have ce:=ho.path m bl.1;have cn:DR I:=LD hG S bn;refine(Yr 8 (fun w'=>Bk w' W 60 ({ m with start:=l }:M).cells) bc.drew) fun d=>(Gv [0,1,2]∘Yw 3 (he:=by exact fun _ P=>Cf P)∘Yw 4 (he:=by exact fun _ _=>Od (pl:=[(0,1),(1,5)]) (ks:=[0,1]) (zs:=[U 0,Bj [],U 0,U 0,U 0,.int .u32 0]) underlying116 MU Be Z Z Z)) ?_;refine Gu 5 1 ([(⟨1,{ m with start:=l }⟩:Nt).cells]) Z Be Z Z underlying93 MU Z Bc Z Z Z (by repeat' (first|exact La _|refine KZ.2 ⟨by first|rfl|assumption,?_⟩)) Bc ?_;rintro nb wg cp ao ab;refine⟨d.ext ab,fun d=>?_⟩;replace ao:Bk wg nb 116 (CC [⟨1,{ m with start:=l }⟩]):=ao;refine(Yc 6 (XG ((C.ext (Bf.drew I)).ext ab).at_ ca J ((cn.ext (Bf.drew I)).ext ab) bn [⟨1,{ m with start:=l }⟩] Bl (fun n hn=>by rw[CG.1 hn];exact⟨⟨bj.path,bj.sum⟩,ce⟩) (X ⟨nb,0,Aa⟩) 1 (nb+1) (Sl.Agf ao (OC _)) (fun w' t=>Sl.Agf (t.bk ao Bc) (OC _)))) ?_;rintro _ wh⟨rfl,cb,th⟩;refine⟨th.bk d Bc,fun d=>?_⟩;refine(Gv [7]∘Yd∘Bu) ?_;exact⟨Z,cb,S.trans ((Tm.Age (Bf.drew I) _ _).trans ((Tm.Age ab _ _).trans th))⟩
end
end
section
open Rec Pth Dsk Wal
def TxS(w:Ad)(C:Y):Bm->Ae (Ae Nt)->Prop
 |[],[]=>True
 |v::vs,l::ls=>(∃A c,v=.slice A (Aim l) c/\Sl w C A (CC l))/\TxS w C vs ls
 |_,_=>False
def TxS.at_{w:Ad}{B:Y}:∀{vs:Bm} {ls:Ae (Ae Nt)},TxS w B vs ls->∀(i:Y) (hi:i<Aim ls),∃A c,vs[i]? =X (.slice A (Aim (ls[i])) c)/\Sl w B A (CC ls[i])
 |[],[],_,i,hi=>by grind
 |v::vs,l::ls,⟨⟨A,c,e,h1⟩,h2⟩,0,hi=>⟨A,c,Bh,h1⟩
 |v::vs,l::ls,⟨h1,h2⟩,i+1,hi=>by
  obtain⟨A,c,h3,h4⟩:=TxS.at_ h2 i Bh;grind
 |[],_::_,h,_,_=>h.elim
 |_::_,[],h,_,_=>h.elim
def HL.txs{w:Ad}{B:Y}:∀{vs:Bm} {ls:Ae (Ae Nt)},HL w B vs ls->TxS w w.heap.size vs ls
 |[],[],_=>trivial
 |v::vs,l::ls,⟨h1,h2⟩=>by
  obtain⟨A,c,e,_,h3⟩:=h1.slice;exact⟨⟨A,c,e,h3⟩,HL.txs h2⟩
 |[],_::_,h=>h.elim
 |_::_,[],h=>h.elim
end
section
attribute [local irreducible] OW KW QW EX GW NV
open Pth Rec Srt Dsk Wal Cat
noncomputable def Hu(l:Ae M)(ls:Ae (Ae Nt)):Ae M:=ls.foldl DS l
def gL(l:Ae M)(a:Ae (Ae Nt))(ns:Ae Nt):Hu l (a++[ns])=DS (Hu l a) ns:=by
 unfold Hu;simp
structure MsOk(l:Ae M):Prop where
 ok:∀m∈l,m.Ok
 len:Aim l<=1000
 path:∀m∈l,Aim m.path<=2000000
inductive Finds(D:Dv):H->Ae M->Dv->Prop
 |none:(Hw D).2.2=230->(Hw D).2.1=[]->Aim D.now/512<=5->Finds D (-1) [] (DG D)
 |some {g:H} {l:Ae M} {ls:Ae (Ae Nt)} {nx:Y}:Hw D=(g,l,0)->JP (DG D) g=((ls,nx),0)->0<=g->g<4611686018427387904->(∀i,i<=Aim ls->MsOk (Hu l (ls.take i))/\(1<=i->Kr (Hu l (ls.take i)) D.cap=0))->
  (∀ns∈ls,Aim ns<=1000/\∀n∈ns,n.mem.Ok/\Aim n.mem.path<=2000000)->Aim ls<=1000->Finds D g (Hu l ls) (FZ (DG D) g)
def Finds.fine{D d:Dv}{g:H}{a:Ae M}(h:Finds D g a d):MsOk a/\-1<=g/\g<4611686018427387904:=by
 cases h with
 |none h1 h2 h3=>exact⟨⟨Bl,Bl,Bl⟩,Bc,Bc⟩
 |some h1 h2 h3 h4 h5 h6 h7=>
  have:=(h5 _ (Bq _)).1;grind
def Finds.dev{D a:Dv}{g:H}{f:Ae M}{k:Y}(h:Finds D g f a)(j:D.Ok)(i:Sm D k):a.Ok/\Sm a (k+31):=by
 have e:=jR j;have d:=jS i;cases h with
 |none _ _ _=>exact⟨e,d.more J⟩
 |some _ _ _ _ _ _ _=>exact⟨zS e _,(zT d _).more J⟩
def lq{w:Ad}{B o k:Y}{D C:Dv}{g:H}{f:Ae M}(h:Cz w B o D)(hD:D.Ok)(hs:Sm D k)(hk:k<=800000000)(hG:DR w)(P:0<B)(b0:30<D.cap)(hl:D.dead=Aj)(hf:Finds D g f C):
 Bn prog 15 [.pointer (X ⟨o,0,Aa⟩)] w fun v w'=>((DJ C (g+1) f).2=0/\(∃vb,v=.tuple #[.pointer (X ⟨vb,0,Aa⟩),U ((0:Y):H)]/\VAt w' B vb o ⟨(DJ C (g+1) f).1,g+1,0,f,Aj⟩)∨(DJ C (g+1) f).2≠0/\v=.tuple #[.pointer Aa,U (((DJ C (g+1) f).2:Y):H)]/\Cz w' B o (DJ C (g+1) f).1)/\Tm w w' B Cs:=by
 obtain⟨a7,b6,b5⟩:=hf.fine;have a:=h.lt;have a5:=jR hD;have bi:=jS hs;refine Bw func15 Z ntmps15 Be Z ?_;refine(O 10∘Zc (Ij h hD)) ?_;rintro _ _⟨rfl,rfl⟩;refine(O 3∘Cd 13∘O 4∘Zc (Ij h hD)) ?_;rintro _ _⟨rfl,rfl⟩;refine(O 3∘Cd 17∘O 4) ?_;have cd:=Uz h hD;rw[hl]at cd;refine(Zc cd) ?_;rintro _ _⟨rfl,rfl⟩;refine(O 8) ?_;have cl:=rT hD hs J B o w hG P h;obtain⟨V,bc⟩:=hf.dev hD hs;obtain⟨L,hL⟩:∃L,L=Hw D:=⟨_,Z⟩;rw[<-hL]at cl;obtain⟨lg,p,le⟩:=L;simp only at cl;have b2:(DG D).now=D.now:=by unfold DG;split<;>rfl
 have bn:(DG D).cap=D.cap:=by unfold DG;split<;>rfl
 refine(Zc cl) ?_;rintro _ w1⟨⟨u,rfl,x⟩,T,t1⟩;refine(O 9)<|Lc (fun((u2,E):Ah×Ad)=>(Bp E B 60 5 u2 (Aim f) (DH f)/\Cz E B o C/\Tm w E B Cs,[(0,.pointer (X ⟨o,0,Aa⟩)),(4,U (g:H)),(5,u2)],E)) ?_ ?_
 .have bj:=hf;rcases bj with⟨e1,e2,e3⟩|@⟨_,l0,d,nx,e1,e2,e3,e4,e5,e6,e7⟩
  .rw[<-hL]at e1 e2;have e1:le=230:=e1;have e2:p=[]:=e2;subst e1 e2;refine(O 6∘Zoa 60 (e:=Z)∘O 1∘Zc (Pf T a5)) ?_;rintro _ _⟨rfl,rfl⟩;refine(O 4∘Cd 57 (e:=by grind)∘O 7∘If 65 (e:=Z)∘O 5∘Lm (u,w1)) ?_;exact⟨Bp.more x (BF a.1 (OB a.2)),T,t1⟩
  .rw[<-hL]at e1
   obtain⟨rfl,rfl,rfl⟩:lg=g/\p=l0/\le=0:=by
    grind
   refine(O 6∘Ig 60∘O 13∘Cd 65∘O 7∘Cd 68∘O 5) ?_;have cr:=zR a5 bi J B o lg w1 T;rw[e2]at cr;refine(Zc cr) ?_;rintro _ w3⟨⟨vt,vs,rfl,bf,ao⟩,Q,t3⟩;refine(O 14) ?_;obtain⟨A3,c3,rfl,_,a3⟩:=bf.slice;refine(Cd 38∘O 10) ?_;have b1:Aim vs=Aim d:=ao.len;have al:=ao.txs;have G:=t1.trans t3;have b7:Hu p (d.take 0)=p:=rfl;have ba:=Ij Q V;have y:(FZ (DG D) lg).cap=D.cap:=bn;rw[y]at ba;have zb:B<=w3.heap.size:=BF a.1 (BF (OB a.2) G.size);have N:=Bp.more (t3.own x Bc) (BF a.1 (OB a.2));refine Lo (fun((i,um,wr):Y×Ah×Ad)=>(i<=Aim d/\Bp wr B 60 5 um (Aim (Hu p (d.take i))) (DH (Hu p (d.take i)))/\Bf w3 wr,[(0,.pointer (X ⟨o,0,Aa⟩)),(4,U (lg:H)),(5,um),(40,.slice A3 (Aim d) c3),(41,U ((Aim d:Y):H)),(42,U i)],wr,Aim d-i)) (0,u,w3) ?_ ?_
   .exact⟨BD _,N,Bf.refl _⟩
   .rintro⟨i,um,wr⟩⟨hi,q,r⟩;refine(O 5)<|Zi (fun m=>?_) fun m=>?_
    .obtain⟨An,cn,aj,a0⟩:=al.at_ i m;obtain⟨b3,o3,rfl,_,bq⟩:=(a3.ext r).at_ J;have t:=a0.ext r;obtain⟨q1,q2⟩:=e6 _ (BM m);obtain⟨m1,_⟩:=e5 i hi;obtain⟨W,m3⟩:=e5 (i+1) J;have j:Hu p (d.take (i+1))=DS (Hu p (d.take i)) d[i]:=by rw[(CR m).symm,gL]
     rw[j]at W m3;have a8:=bq i _ aj;have a9:DR wr:=(LD hG G P).ext r;generalize b4:d[i]=ns at aj a0 t a8 q1 q2 W m3 j;generalize Hu p (d.take i)=ml at q m1 W m3 j;obtain⟨Am,bx,rfl,_,a1⟩:=q.slice;refine(O 6∘Zv (BZ a8)∘O 6∘Zc (bA ml m1.path (by have:=m1.len;omega) ns (fun n hn=>(q2 n hn).2) J Am An bx cn _ _ wr a9 a1 t)) ?_;rintro v4 w4⟨af,a4,l,K⟩;refine(O 6) ?_;have ha:=Uk a4;rw[ha]at W m3 j;obtain⟨A4,c4,rfl,_,a2⟩:=l.slice;refine(Zc (Ij ((Q.ext r).ext K) V)) ?_;rintro _ _⟨rfl,rfl⟩;refine(Zc (Ur af W.ok (by have:=W.len;omega) _ A4 c4 _ w4 (a9.ext K) a2)) ?_;rintro _ w5⟨rfl,ai⟩;refine(O 2∘Cd 53 (e:=by exact fun h=>h (by rw[y];exact m3 J))∘O 7)<|Lb ((i+1),(.slice A4 (Aim af) c4:Ah),w5) ?_;refine⟨m,?_,r.trans (K.trans ai)⟩;rw[j];exact Bp.more (l.ext ai) (BF zb r.size)
    .obtain rfl:i=Aim d:=J;rw[DA (Bq _)]at q;refine(O 6∘Cd 56∘O 3∘Lm (um,wr)) ?_;exact⟨q,Q.ext r,G.trans (Tm.Age r _ _)⟩
 .rintro⟨u2,E⟩⟨ho,bl,tz⟩;obtain⟨A,c,rfl,_,bb⟩:=ho.slice;have cs:=mO V bc J B o (g+1) J J f (by have:=a7.len;omega) a7.ok A c _ E (LD hG tz P) bl bb;generalize DJ C (g+1) f=S at cs;have zw:w.heap.size<=E.heap.size:=tz.size;refine(O 7∘Zc cs) ?_;rintro _ w8⟨rfl,bm,t8⟩;refine(O 7) ?_;have ab:=tz.trans t8;refine Zi (fun he=>?_) fun he=>?_
  .refine(O 6∘BH) ?_;grind
  .refine(O 8∘Zv (by exact Od (pl:=[(0,5)]) (ks:=[0]) (zs:=[.pointer Aa,U 0,U 0,.slice Aa 0 0,.bool Aj]) underlying82 ti82 Be Z Z Z)) ?_;refine DB Z Z Z ?_;rintro vb w9 a6 bs I;refine(O 3∘BH) ?_;have bh:=t8.own ho Bc;have e0:S.2=0:=J;exact⟨.inl ⟨e0,vb,Z,⟨bm.ext I,⟨_,bs,bh.ext I⟩,BF a.1 (BF (OB a.2) (BF ab.size a6))⟩⟩,ab.trans (Tm.Age I _ _)⟩
end
section
attribute [local irreducible] OW KW QW EX GW NV
open Pth Rec Srt Dsk Wal Cat Tar
def xE(w:Ad)(p:AC)(n:Y):Mo w (w.freeze p n) [p.block]:=by
 unfold World.freeze;split
 .exact Mo.refl _ _
 .exact⟨Z,Z,Z,Bl,fun k _ a=>by
   grind⟩
def rF(B b:Y)(l:Bg)(w:Ad)(h:Bd w B b l)(h0:l≠[])(j:Aim l<=140737488355328)(E:B<=w.heap.size):
 Bn prog 51 [.pointer (X ⟨b,0,Aa⟩)] w fun r w'=>r=Bj l/\Below B w w'/\Tm w w' B (fun T=>T==5):=by
 obtain⟨y,p,v,C,n,D,d⟩:=h;refine Bw func51 Z ntmps51 Be Z ?_;refine(O 5) ?_;have f:Aim l≠0:=fun z=>h0 (Gx z);have a:=d.2;rcases a with⟨_,o⟩|⟨g,A,rest,rfl,m,e,i,x,t⟩
 .exact AK o f
 .refine Kf 10 Be Be<|HW.val Z Z (EX.move Z)<|HW.val Z Z (DV Z)<|HW.val Z Z (Dn (off:=1) underlying102 Z Z Ru Z Z)<|HW.val Z Z (Cg underlying23 Z Z (n.cell_of Z))<|HW.val Z Z (cL J Z)<|HW.val Z Z (EX.move Z)<|HW.val Z Z (DV Z)<|HW.val Z Z (Dn (off:=1) underlying102 Z Z Ru Z Z)<|HW.val Z Z (Cg underlying23 Z Z (n.cell_of Z))<|HW.val Z Z (PU underlying23 Z)<|HW.tail<|(Zv (by exact cN (g:=g) (l:=l) (rest:=rest) underlying157 Be (e.drewN _) h0 J Z Z)∘O 2∘Bu) ?_;exact⟨Z,Lib.below_freeze (Ul (Below.refl B w) _) (p:=⟨g,0,Aa⟩) m _,(Tm.Age (Bf.drewN w _) _ _).trans ⟨[g],xE _ ⟨g,0,Aa⟩ _,fun k q=>by rw[CG.1 q];exact⟨m,_,_,e.drewN _,Z⟩⟩⟩
def ry(b n:Y)(p:Ah)(A:Av AC)(c:Y)(w:Ad)(a:Bk w b 102 [p,.slice A n c]):Bn prog 63 [.pointer (X ⟨b,0,Aa⟩)] w fun v w'=>v=U (n:H)/\w=w':=by
 refine Bw func63 Z ntmps63 (by rfl) Z ?_;refine(O 13∘Bu) ?_;simp
def Bd.mo{w w':Ad}{B b:Y}{l:Bg}{S:Bi}(h:Bd w B b l)(hm:Mo w w' S)(j:∀k∈S,k<B):Bd w' B b l:=by
 obtain⟨i,p,v,g,f,e,a⟩:=h;exact⟨i,p,v,g,f.mo hm (fun q=>by grind),e,Bp.mo a hm fun k d q=>by have:=(a.lt k d).1;grind⟩
def dvCs(D:Dv)(vk vn vp vq:Ah):Bm:=[U (D.cap:H),vk,vn,vp,U (D.at_:H),vq,.bool D.dead,U (D.calls:H)]
def ay(s:Bg)(a i:Y)(h:(a+i+1)*512<=Aim s):(s.drop (a*512)).take ((i+1)*512)=(s.drop (a*512)).take (i*512)++Cb s (a+i):=by
 unfold Cb;have:=List.take_add (l:=s.drop (a*512)) (i:=i*512) (j:=512);rw[show i*512+512=(i+1)*512 by omega,Ge,show a*512+i*512=(a+i)*512 by omega]at this;omega
structure Stands(D:Dv)(m:M)(x:En):Prop where
 fits:Fits x
 start:0<=m.start
 sectors:0<=m.sectors
 size:m.size=(Aim x.data:H)
 sum:m.sum=Fc x.data
 len:m.sectors.toNat*512=Aim (Cj x)
 now:(D.now.drop (m.start.toNat*512)).take (m.sectors.toNat*512)=Cj x
section
variable{w w':Ad}{B vb db:Y}{V V':Vl}{k:Y}
def gm(h:VAt w B vb db V)(ho:VOk V k)(hk:k<=800000000)(hG:Env w)(b5:∀w',Tm w w' B vty->Env w')(p x:Bg)(m:M)(hm:CO V p=(m,0))(f:Stands V.D m ⟨p,x⟩)(cl:¬(V.broken=Af∨V.D.dead=Af)):
 Bn prog 28 [.pointer (X ⟨vb,0,Aa⟩),Bj p] w fun v w'=>v=.tuple #[Bj x,U ((0:Y):H)]/\VAt w' B vb db { V with D:=DI V.D m.sectors.toNat }/\Tm w w' B vty:=by
 have b8:V.D.dead=Aj:=by
  rcases e:V.D.dead with _|_
  .rfl
  .grind
 have b6:=JN f.fits;have ch:=ho.dev.cap;have cd:=ho.dev.now;obtain⟨n,hn⟩:∃n,n=m.sectors.toNat:=⟨_,Z⟩;obtain⟨a,ha⟩:∃a,a=m.start.toNat:=⟨_,Z⟩;have h1:=f.start;have h2:=f.sectors;have h3:=f.len;have h4:=f.now;rw[<-hn]at h3 h4;rw[<-ha]at h4
 have co:(a+n)*512<=Aim V.D.now:=by
  have:=Ar DW h4;rw[BY,CK]at this;omega
 have a7:=f.size;have a8:=f.sum;have ck:Aim p<=120:=(Qx f.fits.path).2.2.1;have cj:Aim x<=8192:=f.fits.data;simp only at a7 a8;have cm:=Zj h ho p J;rw[hm]at cm;simp only at cm;rw[<-hn];refine Bw func28 Z ntmps28 Be Z ?_;refine(O 9∘Zc cm) ?_;rintro _ wa⟨rfl,a0⟩;refine(O 3∘Zn) ?_;rintro mb wb cf b9 a5;refine(Zs b9 (hlt:=Bq _)) ?_;rintro C t b4;refine(O 8) ?_;replace t:Bk C mb 60 m.cells:=t;have xc:Bf w C:=Bv (a0.trans a5) b4 (a0.trans a5).size (by simp;have:=a0.size;omega);obtain⟨u,L⟩:=(h.ext xc).u;refine(Cd 21∘O 4∘Zn) ?_;rintro bb wd ba bj K;refine(O 5) ?_;have cn:Bd wd C.heap.size bb []:=Bd.new ba bj;obtain⟨vk,vn,vp,vq,vs,d⟩:=L.dev;have lm:=t.lt;have ld:=L.dev.lt;have lv:=L.bk.lt;have zc:=K.size;have aj:vb≠db:=L.bk.ne d.cells Bc;have al:mb≠db:=t.ne d.cells Bc;obtain⟨E,hE⟩:∃E,E=Cj ⟨p,x⟩:=⟨_,Z⟩;rw[<-hE]at h3 h4 b6;refine(Zv (Bo (t.ext K))∘O 3)<|Lo (fun((i,wr):Y×Ad)=>(i<=n/\Bd wr C.heap.size bb (E.take (i*512))/\Bk wr db 85 (dvCs (DI V.D i) vk vn vp vq)/\Mo C wr [db],[(0,.pointer (X ⟨vb,0,Aa⟩)),(1,Bj (p)),(6,.pointer (X ⟨mb,0,Aa⟩)),(8,.pointer (X ⟨bb,0,Aa⟩)),(24,U (m.sectors:H)),(25,U i)],wr,n-i)) (0,wd) ?_ ?_
 .exact⟨BD _,Bh,d.cells.ext K,Mo.Age K _⟩
 .rintro⟨i,wr⟩⟨hi,A,bh,r⟩;have bc:Dev wr B db (DI V.D i) vk vn vp vq vs:=Dev.after d.lo d.cells r bh d.kept d.now d.apart d.pend d.chs d.keep;have bx:=L.bk.mo r (by simpa using aj);have b2:=t.mo r (by simpa using al);have zr:=r.size;refine(O 5)<|Zi (fun a1=>?_) fun a1=>?_
  .have hj:a+i<(DI V.D i).now.length/512:=by
    show a+i<Aim V.D.now/512;omega
   have cr:=lX (bc.ext (Bf.drew wr)) (SV ho.dev i) ((Vu ho.sm i).small J) b8 hj;rw[show(((a+i:Y)):H)=m.start+(i:H) by omega,Vt]at cr;have o:=ay V.D.now a i Bh
   have b1:Aim (Cb V.D.now (a+i))=512:=by
    have:=OF 512 (show a+i+1<=a+n by omega);unfold Cb;rw[BY,CK];omega
   have a6:∀j,j<=n->E.take (j*512)=(V.D.now.drop (a*512)).take (j*512):=fun j hj=>by
    grind
   rw[<-a6 i hi,<-a6 (i+1) J]at o;have cg:Aim (E.take (i*512))<=13000000:=by rw[BY];omega
   have bn:(DI V.D i).now=V.D.now:=rfl;rw[bn]at cr;generalize Cb V.D.now (a+i)=sc at cr o b1;refine(O 9∘Yr 15 (fun w'=>Bk w' vb 82 (HC db V u)/\Bk w' mb 60 m.cells) (HZ bx.drew b2.drew)) fun G=>(Gv [0,1,2,3,4,5,6,7,8]∘Yc 9 cr) ?_;rintro _ we⟨rfl,b7,N⟩;refine⟨⟨G.1.mo N (by simpa using aj),G.2.mo N (by simpa using al)⟩,fun G=>?_⟩;refine(Gv [10,11,12,13,14]∘Yd∘O 6) ?_;have T:Mo C we [db]:=(r.trans (Mo.Age (Bf.drew wr) _)).trans N;have bi:Bd we C.heap.size bb (E.take (i*512)):=(A.ext (Bf.drew wr)).mo N Bh;refine(Cd 42∘O 4∘Zc (bF C.heap.size bb (E.take (i*512)) sc we bi (fun q=>by grind) J T.size)) ?_;rintro _ wf⟨⟨_,rfl⟩,ai,af,_⟩;refine(O 6) ?_;rw[<-o]at ai;refine Lb ((i+1),wf) ?_;exact⟨J,ai,b7.cells.low af J,Mo.fresh (S:=[db]) (T.low af) (fun k hk _=>hk)⟩
  .obtain rfl:i=n:=J;rw[DA J]at A;have cc:E≠[]:=fun q=>by grind
   have a2:=A;obtain⟨_,pp,pv,_,bl,_,a9⟩:=a2;obtain⟨Ab,cb,rfl,_,_⟩:=a9.slice;have bq:=fun w hG=>Acp ⟨p,x⟩ f.fits [] Bh w hG;rw[List.append_nil,<-hE]at bq;refine(O 3∘Zc (rF C.heap.size bb E wr A cc J r.size)) ?_;rintro _ wg⟨rfl,ab,b0⟩;have Q:Mo C wg [db]:=r.low ab;have tm:∀w',Mo C w' [db]->Tm w w' B vty:=fun w' hm=>(Tm.Age xc _ _).trans ⟨[db],hm,fun k hk=>by rw[CG.1 hk];exact⟨d.lo,_,_,d.cells,Bc⟩⟩;refine(Zc (bq wg (b5 wg (tm wg Q)))) ?_;rintro _ wh⟨rfl,ao⟩;refine(O 4∘Zn) ?_;rintro xb wi ce a4 a3;refine(Zs a4 (hlt:=Bq _)) ?_;rintro wj g b3;refine(O 5) ?_;replace g:Bk wj xb 64 [Bj p,Bj x]:=g;have I:Bf wg wj:=Bv (ao.trans a3) b3 (ao.trans a3).size (by simp;have:=ao.size;omega);have P:Mo C wj [db]:=Q.trans (Mo.Age I _);have W:=t.mo P (by simpa using al);have bm:=(b0.bk bl Bc).ext I;refine(Yr 29 (fun w'=>Bf wj w') (Bf.drew wj)) fun G=>(Gv [0,1,2]∘Nv 54∘Gv [3]∘Yw 4 (he:=by exact fun _ l=>Bo (g.ext l))∘Gv [5,6,7,8]∘Nv 60∘Gv [9]∘Yw 10 (he:=by exact fun _ l=>Bo (g.ext l))∘Gv [11,12]∘Yw 13 (he:=by exact fun _ l=>Bo (W.ext l))∘Gv [14,15,16]∘Nv 68 (e:=by exact fun h=>h a7.symm)∘Gv [17]∘Yw 18 (he:=by exact fun _ l=>Bo (g.ext l))∘Gv [20]∘Yw 21 (he:=by exact fun _ l=>Bo (W.ext l))∘Yc 19 (YR x J _)) ?_;rintro _ wk⟨rfl,bs⟩;refine⟨G.trans bs,fun G=>?_⟩;refine(Gv [22,23,24]∘Nv 76 (e:=by exact fun h=>h (by rw[a8]))∘Gv [25]∘Yc 26 (ry bb (Aim E) pp Ab cb _ (bm.ext G))) ?_;rintro _ _⟨rfl,rfl⟩;refine⟨G,fun G=>?_⟩;refine(Gv [27,28]∘Yd∘Cd 80∘O 5∘Zv (Bo (g.ext G))∘O 3∘BH) ?_;have y:=P.trans (Mo.Age G _);refine⟨Z,⟨?_,⟨u,L.bk.mo y (by simpa using aj),L.own.mo y fun k hk=>?_⟩,L.low⟩,tm _ y⟩
   .have bf:Bk wk db 85 (dvCs (DI V.D i) vk vn vp vq):=((bh.low ab J).ext I).ext G;exact⟨vk,vn,vp,vq,vs,Dev.after d.lo d.cells y bf d.kept d.now d.apart d.pend d.chs d.keep⟩
   .obtain⟨_,l',ca⟩:=L.own.blkT k hk;simpa using ca.ne d.cells Bc
end
end
section
open Pth Rec Srt Dsk Wal Cat Tar
def Ez(x:En):Nt:=⟨1,⟨x.path,0,0,(Aim x.data:H),Fc x.data⟩⟩
def Dw(x:En)(p:Xt):Nt:=⟨1,⟨x.path,p.1,p.2,(Aim x.data:H),Fc x.data⟩⟩
noncomputable def Ca(x:En):H:=((Aim (Cj x)/512:Y):H)
def FT:Ae En->Y
 |[]=>0
 |x::r=>if Cy x.path≠0 then 140 else if 8192<Aim x.data then 3 else FT r
noncomputable def Fzs(cap:H)(E0:Ae Xt):Ae Xt->Ae En->Ae Xt×Y
 |ps,[]=>(ps,0)
 |ps,x::r=>if(ER (E0++ps) cap (Ca x)).2≠0 then([],(ER (E0++ps) cap (Ca x)).2)else Fzs cap E0 (ps++[((ER (E0++ps) cap (Ca x)).1,Ca x)]) r
def EG(s:Bg):Ae (Bg):=(BE (Aim s/512)).map fun k=>(s.drop (k*512)).take 512
noncomputable def writeX:Dv->Ae (Xt×En)->Dv×Y
 |D,[]=>(D,0)
 |D,(p,x)::r=>if(writes D p.1.toNat (EG (Cj x))).2≠0 then writes D p.1.toNat (EG (Cj x))else writeX (writes D p.1.toNat (EG (Cj x))).1 r
noncomputable def putF(V:Vl)(l:Ae En)(ps:Ae Xt):Vl×Y:=
 if l=[]then(V,0)
 else if(Dg V ((Aim l+1:Y):H)).2≠0 then Dg V ((Aim l+1:Y):H)
 else Mm (Dg V ((Aim l+1:Y):H)).1 (writeX (Dg V ((Aim l+1:Y):H)).1.D (ps.zip l)) (HJ Dw l ps)
noncomputable def NM(V:Vl)(l:Ae En):Vl×Y:=
 if(Fzs V.D.cap (BV V.mems) [] l).2≠0 then(V,(Fzs V.D.cap (BV V.mems) [] l).2)else putF V l (Fzs V.D.cap (BV V.mems) [] l).1
noncomputable def LH(V:Vl)(l:Ae En):Vl×Y:=if 16<Aim (DS V.mems (l.map Ez))then(V,241)else NM V l
noncomputable def NL(V:Vl)(l:Ae En):Vl×Y:=if ¬(l.map En.path).Nodup then(V,2)else LH V l
noncomputable def Ej(V:Vl)(l:Ae En):Vl×Y:=if FT l≠0 then(V,FT l)else NL V l
noncomputable def EA(V:Vl)(l:Ae En):Vl×Y:=if V.broken=Af∨V.D.dead=Af then(V,190)else Ej V l
def lK{l:Ae En}{i:Y}(hi:i<Aim l)(h:FT (l.take i)=0):FT l=if Cy l[i].path≠0 then 140 else if 8192<l[i].data.length then 3 else FT (l.drop (i+1)):=by
 have d:∀(a b:Ae En),FT a=0->FT (a++b)=FT b:=fun a=>by
  induction a with
  |nil=>simp
  |cons x a ih=>
   intro b h;unfold FT at h;show(if Cy x.path≠0 then 140 else if 8192<Aim x.data then 3 else FT (a++b))=_;grind
 have e:l=l.take i++l[i]::l.drop (i+1):=by rw[<-Ds hi,Ho]
 conv=>lhs;rw[e]
 rw[d _ _ h];rfl
def lJ{l:Ae En}(h:FT l=0):∀x∈l,Fits x:=by
 induction l with
 |nil=>simp
 |cons y l ih=>
  unfold FT at h;split at h
  .cases h
  .rename_i e;split at h
   .cases h
   .rename_i d;intro x a;rcases List.mem_cons.1 a with rfl|a
    .exact⟨J,J⟩
    .grind
def zi{l:Ae En}{i:Y}(hi:i<Aim l)(h:FT (l.take i)=0)(h1:Cy l[i].path=0)(h2:¬8192<l[i].data.length):FT (l.take (i+1))=0:=by
 have a:i<Aim (l.take (i+1)):=by rw[BY];omega
 have:=lK (l:=l.take (i+1)) a Bh;have e:(l.take (i+1))[i]=l[i]:=List.getElem_take;rw[this,e,Ag J,Ag h2,Ot (by rw[BY];omega)];rfl
def ZA(l1 l2:Ae Nt)(n:Nt)(rest:Bm)(j:Y)(f:j<6)(v:Ah)(a:Nt)(h:n.cells.set j v=a.cells):(CC (l1++n::l2)++rest).set (Aim l1*6+j) v=CC (l1++a::l2)++rest:=by
 have d:Aim (CC l1)=Aim l1*6:=Vb l1
 have e:∀m:Nt,CC (l1++m::l2)++rest=CC l1++(m.cells++(CC l2++rest)):=fun m=>by
  simp
 rw[e,e,<-h,List.set_append,Ag J,d,Ki,List.set_append,Ai Cr]
def Zz(l1 l2:Ae Nt)(n:Nt)(rest:Bm)(j:Y)(v:Ah)(h:n.cells[j]? =X v):(CC (l1++n::l2)++rest)[Aim l1*6+j]? =X v:=by
 have a:Aim (CC l1)=Aim l1*6:=Vb l1
 have e:CC (l1++n::l2)++rest=CC l1++(n.cells++(CC l2++rest)):=by
  simp only[CC,Ia,EY,Cq]
 grind
def EI(l:Ae En)(ps:Ae Xt):Ae Nt:=HJ Dw (l.take (Aim ps)) ps
def kR{l:Ae En}{ps:Ae Xt}(h:Aim ps<=Aim l):Aim (EI l ps)=Aim ps:=by
 unfold EI;grind
def yd{l:Ae En}{ps:Ae Xt}(h:Aim ps<Aim l)(p:Xt):EI l (ps++[p])=EI l ps++[Dw l[Aim ps] p]:=by
 unfold EI;rw[BA,CJ,(CR h).symm,List.zipWith_append Bh];rfl
def yX{cap:H}{a ps:Ae Xt}{l:Ae En}{i:Y}(h:i<Aim l):Fzs cap a ps (l.drop i)=if(ER (a++ps) cap (Ca l[i])).2≠0 then([],(ER (a++ps) cap (Ca l[i])).2)else Fzs cap a (ps++[((ER (a++ps) cap (Ca l[i])).1,Ca l[i])]) (l.drop (i+1)):=by
 rw[Ds h,Fzs]
def yY{cap:H}{a ps:Ae Xt}{l:Ae En}:Fzs cap a ps (l.drop (Aim l))=(ps,0):=by
 rw[IK,Fzs]
end
section
attribute [local irreducible] OW KW QW EX GW NV
open Pth Rec Srt Dsk Wal Cat Tar
def Uf(l:Ae En)(ps:Ae Xt):Prop:=∀j (h:j<Aim ps) (h':j<Aim l),30<=ps[j].1/\ps[j].1+ps[j].2<=4096/\ps[j].2=Ca l[j]
def Uf.snoc{l:Ae En}{ps:Ae Xt}(h:Uf l ps){p:Xt}(hl:Aim ps<Aim l)(h1:30<=p.1)(h2:p.1+p.2<=4096)(e:p.2=Ca l[Aim ps]):Uf l (ps++[p]):=fun j d a=>by
 rw[BA,CJ]at d;by_cases q:j<Aim ps
 .rw[Wz q];exact h j q a
 .grind
def yf(ns:Ae Nt)(rest:Bm){i:Y}(h:i<Aim ns)(j:Y){v:Ah}(hv:ns[i].cells[j]? =X v):(CC ns++rest)[i*6+j]? =X v:=by
 have e:ns=ns.take i++ns[i]::ns.drop (i+1):=by rw[<-Ds h,Ho]
 have q:=Zz (ns.take i) (ns.drop (i+1)) ns[i] rest j v hv;rw[<-e,BY,Hq (OB h)]at q;omega
def kQ{l:Ae En}{ps:Ae Xt}(h:Aim ps=Aim l){i:Y}(hi:i<Aim l)(rest:Bm)(j:Y){v:Ah}(hv:(Dw l[i] (ps[i]'J)).cells[j]? =X v):(CC (EI l ps)++rest)[i*6+j]? =X v:=by
 have a:i<Aim (EI l ps):=by rw[kR J];omega
 refine yf _ _ a j ?_;have e:(EI l ps)[i]=Dw l[i] (ps[i]'J):=by simp only[EI,List.getElem_zipWith,List.getElem_take]
 grind
def yc{l:Ae En}{ps:Ae Xt}(h:Aim ps=Aim l):EI l ps=HJ Dw l ps:=by
 unfold EI;grind
def eK(s:Bg):Fc s<4294967296:=br _ _ _ Bl
def Agc{l:Ae En}{ps:Ae Xt}(h:∀x∈l,Aim x.path<=1000000/\Aim x.data<=1000000000){n:Nt}(a:n∈HJ Dw l ps):n.mem.Ok/\Aim n.mem.path<=2000000:=by
 rw[<-List.map_uncurry_zip_eq_zipWith]at a;obtain⟨⟨x,p⟩,f,rfl⟩:=Ck.1 a;have d:=(h x (List.of_mem_zip f).1).1;have i:=eK x.data;have e:∀c:Y,c<4294967296->c<=4294967295:=fun c h=>Nat.le_of_lt_succ h
 have g:(Dw x p).mem.sum<=4294967295:=by
  unfold Dw;exact e _ i
 exact⟨⟨BF d Bc,g⟩,BF d Bc⟩
noncomputable def aW(c:Dv×Y)(r:Ae (Xt×En)):Dv×Y:=if c.2≠0 then c else writeX c.1 r
def Afq{D:Dv}{l:Ae En}{ps:Ae Xt}(h:Aim ps=Aim l){i:Y}(hi:i<Aim l):writeX D ((ps.zip l).drop i)=aW (writes D (ps[i]'J).1.toNat ((EG (Cj l[i])).drop 0)) ((ps.zip l).drop (i+1)):=by
 rw[Ds Bh,List.getElem_zip,writeX];rfl
def Mr(s:Bg):Aim (EG s)=Aim s/512:=by unfold EG;simp
def Afs{D:Dv}{a j:Y}{s:Bg}(h:j<Aim s/512):writes D (a+j) ((EG s).drop j)=if(D.write ((a+j:Y):H) ((s.drop (j*512)).take 512)).2=0 then writes (D.write ((a+j:Y):H) ((s.drop (j*512)).take 512)).1 (a+(j+1)) ((EG s).drop (j+1))else D.write ((a+j:Y):H) ((s.drop (j*512)).take 512):=by
 rw[Ds (by rw[Mr];omega),writes];simp only[EG,Ou,List.getElem_range];rfl
section
variable{w w':Ad}{B vb db:Y}{V V':Vl}{k:Y}
def ZX(h:VAt w B vb db V)(ho:VOk V k)(hk:k<=700000000)(hG:Env w)(e7:0<B)(l:Ae En)(hl:Aim l<=20)(A:Av AC)(c C:Y)(hs:Sl w C A (DN l))(bl:∀x∈l,Aim x.path<=1000000/\Aim x.data<=1000000000):
 Bn prog 32 [.pointer (X ⟨vb,0,Aa⟩),.slice A (Aim l) c] w fun v w'=>v=U (((EA V l).2:Y):H)/\VAt w' B vb db (EA V l).1/\Tm w w' B vty:=by
 have ca:=Xc h ho.dev;have ht:=ho.len;have h0:=ho.dev.cap;obtain⟨u,hu⟩:=h.u;refine Bw func32 Z ntmps32 Be Z ?_;refine(O 8) ?_;by_cases ha:V.broken=Af∨V.D.dead=Af
 .rw[Ai ha]at ca;have e:EA V l=(V,190):=Ai ha;rw[e];refine(Zc ca) ?_;rintro _ _⟨rfl,rfl⟩;refine(O 7∘If 28∘O 6∘Bu) ?_;exact⟨Z,h,Tm.refl _ _ _⟩
 .rw[Ag ha]at ca;have e1:EA V l=Ej V l:=Ag ha;rw[e1];clear e1;refine(Zc ca) ?_;rintro _ _⟨rfl,rfl⟩;refine(O 7∘Cd 28∘O 9)<|Lc (fun((_u,wr):Unit×Ad)=>(Bf w wr/\FT l=0,[(0,.pointer (X ⟨vb,0,Aa⟩)),(1,.slice A (Aim l) c)],wr)) ?_ ?_
  .refine(O 1)<|Lo (fun((i,wr):Y×Ad)=>(i<=Aim l/\FT (l.take i)=0/\Bf w wr,[(0,.pointer (X ⟨vb,0,Aa⟩)),(1,.slice A (Aim l) c),(30,.slice A (Aim l) c),(31,U ((Aim l:Y):H)),(32,U i)],wr,Aim l-i)) (0,w) ?_ ?_
   .exact⟨BD _,Z,Bf.refl _⟩
   .rintro⟨i,wr⟩⟨hi,hp,hx⟩;refine(O 5)<|Zi (fun d=>?_) fun d=>?_
    .obtain⟨b,o,rfl,_,G⟩:=(hs.ext hx).flat (l:=l) (i:=i) (c:=2) (fun _=>rfl) Bc d;have b4:=lK d hp;have en:=zi d hp;have a8:=bl _ (BM d);generalize l[i]=x at G b4 en a8;refine(O 6∘Zv (Do x.cells G)∘Zn) ?_;rintro xb w4 cj bx ai;refine(Zs bx (hlt:=Bq _)) ?_;rintro w5 S bj;refine(O 5) ?_;replace S:Bk w5 xb 64 x.cells:=S;have x5:Bf wr w5:=Bv ai bj ai.size (fun k hk=>by simp at hk;omega);have xw:=hx.trans x5;refine(O 1∘Zc (OM x.path J w5)) ?_;rintro _ w6⟨rfl,P⟩;refine(O 2)<|Zi (fun hc=>?_) fun hc=>?_
     .have d5:Cy x.path≠0:=J
      have e:Ej V l=(V,140):=by
       unfold Ej;rw[b4,Ai d5,Ai Bc]
      rw[e];refine(O 4∘Bu) ?_;exact⟨Z,h.ext (xw.trans P),Tm.Age (xw.trans P) _ _⟩
     .have d5:¬Cy x.path≠0:=J;rw[Ag d5]at b4;have d6:=S.ext P;refine(O 8)<|Zi (fun bq=>?_) fun bq=>?_
      .have e:Ej V l=(V,3):=by
        unfold Ej;rw[b4,Ai bq,Ai Bc]
       rw[e];refine(O 4∘Bu) ?_;exact⟨Z,h.ext (xw.trans P),Tm.Age (xw.trans P) _ _⟩
      .refine(O 6)<|Lb ((i+1),w6) ?_;exact⟨d,en J bq,xw.trans P⟩
    .obtain rfl:i=Aim l:=J;rw[DA (Bq _)]at hp;refine(O 1∘Lm ((),wr)) ?_;grind
  .rintro⟨_,wr⟩⟨hx,eo⟩;have e2:Ej V l=NL V l:=Ag J;rw[e2];refine(O 6) ?_;refine du Z Z ?_;rintro mb wa hw gs gb;refine(O 9) ?_;have xa:=hx.trans gb;refine Lc (fun((vn,wr):Ah×Ad)=>(Bp wr w.heap.size 116 6 vn (Aim l) (CC (l.map Ez))/\Bf w wr/\(l.map En.path).Nodup,[(0,.pointer (X ⟨vb,0,Aa⟩)),(1,.slice A (Aim l) c),(8,vn)],wr)) ?_ ?_
   .refine(O 1)<|Lo (fun((i,vn,wr):Y×Ah×Ad)=>(i<=Aim l/\(∃es cc,Mp wr mb es cc (NS ((l.take i).map En.path)))/\((l.take i).map En.path).Nodup/\Bp wr w.heap.size 116 6 vn i (CC ((l.take i).map Ez))/\Bf w wr,[(0,.pointer (X ⟨vb,0,Aa⟩)),(1,.slice A (Aim l) c),(8,vn),(9,.map (X mb)),(46,.slice A (Aim l) c),(47,U ((Aim l:Y):H)),(48,U i)],wr,Aim l-i)) (0,(.slice Aa 0 0),wa) ?_ ?_
    .exact⟨BD _,⟨_,_,gs⟩,WF,Bp.nil _ _ _ _,xa⟩
    .rintro⟨i,vn,wr⟩⟨hi,⟨es,cc,hm⟩,dg,T,a5⟩;refine(O 5)<|Zi (fun d=>?_) fun d=>?_
     .obtain⟨b,o,rfl,_,G⟩:=(hs.ext a5).flat (l:=l) (i:=i) (c:=2) (fun _=>rfl) Bc d;have a0:l.take (i+1)=l.take i++[l[i]]:=(CR d).symm;have a8:=bl _ (BM d);have h5:l[i]∈l:=BM d
      have cl:l[i].path∈(l.take i).map En.path->¬(l.map En.path).Nodup:=fun q hn=>by
       have e:l.map En.path=(l.take i).map En.path++(l[i].path::(l.drop (i+1)).map En.path):=by
        rw[<-Cp,<-DX,<-Ds d,Ho]
       grind
      generalize l[i]=x at G a0 a8 cl;refine(O 6∘Zv (Do x.cells G)∘Zn) ?_;rintro xb w4 cj bx ai;refine(Zs bx (hlt:=Bq _)) ?_;rintro w5 S bj;refine(O 6) ?_;replace S:Bk w5 xb 64 x.cells:=S;have x5:Bf wr w5:=Bv ai bj ai.size (fun k hk=>by simp at hk;omega);have xw:=a5.trans x5;have a4:=hm.ext x5;refine(O 1∘Zv (by exact pq underlying133 underlying9 ti4 Z Z a4)∘O 1)<|Zi (fun cg=>?_) fun cg=>?_
      .have e:NL V l=(V,2):=Ai (cl cg);rw[e];refine(O 4∘Bu) ?_;exact⟨Z,h.ext xw,Tm.Age xw _ _⟩
      .refine(O 6) ?_;refine OW.put Z underlying133 underlying9 Z Z Z (a4) ?_;rintro hg hh w6 b6 bi;refine(O 1) ?_
       have c1:Hi (NS ((l.take i).map En.path)) x.path (Value.bool Af)=NS ((l.take (i+1)).map En.path):=by
        unfold Hi;rw[Ag (by rw[mS];omega),a0];simp[NS]
       rw[c1]at b6;have d6:=S.mo bi (by simpa using a4.Agx S);have x6:Bf w w6:=Bv xw bi xw.size (by simp;have:=hx.size;omega)
       have ab:Bp w6 w.heap.size 116 6 vn i (CC ((l.take i).map Ez)):=Bp.mo (T.ext x5) bi fun k hk=>by
        obtain⟨_,l',I⟩:=(T.ext x5).blkT k hk;simpa using a4.Agx I
       have ez:=fun k hk=>(ab.lt k hk).1
       have fv:∀k,vn.ownBlock=X k->k≠xb:=fun k hk=>by
        obtain⟨_,l',I⟩:=ab.blkT k hk;exact I.ne d6 Bc
       have f5:∀k,vn.ownBlock=X k->k≠mb:=fun k hk=>by
        obtain⟨_,l',I⟩:=ab.blkT k hk;exact b6.Agx I
       refine(Yr 14 (fun w'=>Bf w w'/\Bk w' xb 64 x.cells) (HZ (x6.trans (Bf.drew w6)) d6.drew)) fun r=>(Gv [0,1,2,3,4,5,6,7]∘Yc 8 (YR x.data J w6.drew)) ?_;rintro _ w7⟨rfl,cz⟩;refine⟨⟨r.1.trans cz,r.2.ext cz⟩,fun r=>?_⟩;refine(Gv [9]∘Yw 10 (he:=by exact fun _ _=>Od (pl:=[(0,1),(1,5)]) (ks:=[0,1]) (zs:=[U 0,Bj [],U 0,U 0,U 0,.int .u32 0]) underlying116 MU Be Z Z Z)) ?_;refine Gu 11 1 ([(Ez x).cells]) Z Be Z Z underlying93 MU Z Bc Z Z Z (by repeat' (first|exact La _|refine KZ.2 ⟨by first|rfl|assumption,?_⟩)) Bc ?_;rintro nb w8 hy e9 L;refine⟨⟨r.1.trans L,r.2.ext L⟩,fun r=>?_⟩;have b0:=((Bf.drew w6).trans cz).trans L;refine GW.append 12 0 Z Be Z Z underlying93 MU Z Bc Z Z ((ab.ext b0).more (BD _)) (Src.Agh (m:=1) underlying93 (Sl.Agf e9 e9.lt) Z (ye [Ez x]) Bc) CE J (BD _) ?_;rintro v9 w9 ea d1 ge;refine⟨⟨r.1.grown d1 ez,r.2.grown d1 fun e=>fv xb e.symm Z⟩,fun r=>?_⟩;refine(Gv [13]∘Yd∘O 5)<|Lb ((i+1),v9,w9) ?_;refine⟨d,⟨hg,hh,(b6.ext b0).of_block (d1.block mb (by have:=(b6.ext b0).lt;omega) fun e=>f5 mb e.symm Z)⟩,?_,?_,r.1⟩
       .rw[a0,DX,WE];grind
       .rw[a0,DX,Ma,show CC ((l.take i).map Ez++[Ez x])=CC ((l.take i).map Ez)++[(Ez x).cells].flatten by simp];refine Bp.base ea fun k hk=>?_;rcases ge with e|e
        .grind
        .rw[e]at hk;injection hk with hk;have:=x6.size;have:=b0.size;omega
     .obtain rfl:i=Aim l:=J;rw[DA (Bq _)]at T dg;refine(O 1∘Lm (vn,wr)) ?_;grind
   .rintro⟨vn,wr⟩⟨T,a5,dg⟩;have e3:NL V l=LH V l:=Ag (fun q=>q dg);rw[e3];obtain⟨An,cn,rfl,_,ek⟩:=T.slice;have eg:=hu.ext a5;obtain⟨Au,cu,rfl,_,eh⟩:=eg.own.slice
    have g8:∀n∈l.map Ez,Aim n.mem.path<=2000000:=fun n hn=>by
     obtain⟨x,hx,rfl⟩:=Ck.1 hn;have:=(bl x hx).1;show Aim x.path<=_;omega
    have cw:=bA V.mems ho.path J (l.map Ez) g8 Bh Au An cu cn _ _ wr (DR.ext hG.mlen a5) eh ek;rw[DQ]at cw;refine(O 7∘Zv (Bo eg.bk)∘O 1∘Zc cw) ?_;rintro v2 w2⟨h2,ey,c3,ec⟩;obtain⟨A2,c2,rfl,_,_⟩:=c3.slice;refine(O 3) ?_;have cb:=Uk ey;have x2:=a5.trans ec;refine Zi (fun a2=>?_) fun a2=>?_
    .have e:LH V l=(V,241):=by
      unfold LH;rw[cb];exact Ai a2
     rw[e];refine(O 4∘Bu) ?_;exact⟨Z,h.ext x2,Tm.Age x2 _ _⟩
    .have e4:LH V l=NM V l:=by
      unfold LH;rw[cb];exact Ag a2
     rw[e4];refine(O 6∘Zc (UJ (h.ext x2) J)) ?_;rintro v3 w3⟨b8,c0⟩;refine(O 14) ?_;by_cases b7:l=[]
     .have e5:NM V l=(V,0):=by
       rw[b7];unfold NM;rw[show Fzs V.D.cap (BV V.mems) [] []=([],0) by rfl,Ag (fun h=>h Z)];exact Ai Z
      rw[e5];have gt:Aim l=0:=by rw[b7];rfl
      refine Lo (fun((wr,_u):Ad×Unit)=>(Bf w wr,[(1,.slice A (Aim l) c),(87,U ((Aim l:Y):H)),(88,U ((0:Y):H))],wr,0)) (w3,()) ?_ ?_
      .exact x2.trans c0
      .rintro⟨wr,_⟩af;refine(O 5∘Cd 89∘O 9∘If 154∘O 5∘Bu) ?_;exact⟨Z,h.ext af,Tm.Age af _ _⟩
     .obtain⟨nb,rest,rfl,hnb1,hnb2⟩:∃nb rest,An=X ⟨nb,0,Aa⟩/\w.heap.size<=nb/\Bk wr nb 116 (CC (l.map Ez)++rest):=by
       rcases T.2 with⟨_,q⟩|⟨nb,h7,rest,e,q1,q2,_⟩
       .grind
       .grind
      have x3:=x2.trans c0;have bn:=lJ eo;obtain⟨E0,hE0⟩:∃E0,E0=BV V.mems:=⟨_,Z⟩;have g9:Aim E0=Aim V.mems:=by rw[hE0];exact Mu _
      rw[<-hE0,<-g9]at b8;obtain⟨pl,hpl⟩:∃pl,pl=Fzs V.D.cap E0 [] l:=⟨_,Z⟩;have e5:NM V l=if pl.2≠0 then(V,pl.2)else putF V l pl.1:=by rw[hpl,hE0];rfl
      rw[e5];have zw:=x3.size;have gq:Bk w3 nb 116 (CC (EI l []++(l.drop 0).map Ez)++rest):=(hnb2.ext ec).ext c0;refine Lo (fun((i,g,vu,vs,wq):Y×(Ae Xt)×Ah×Ah×Ad)=>(i<=Aim l/\pl=Fzs V.D.cap E0 g (l.drop i)/\Aim g=i/\Uf l g/\Bp wq w.heap.size 121 2 vu (Aim E0+i) (Eg (E0++g))/\Bp wq w.heap.size 9 1 vs i (Dd ((l.take i).map Cj))/\Bk wq nb 116 (CC (EI l g++(l.drop i).map Ez)++rest)/\Bf w wq,[(0,.pointer (X ⟨vb,0,Aa⟩)),(1,.slice A (Aim l) c),(8,.slice (X ⟨nb,0,Aa⟩) (Aim l) cn),(12,vu),(13,vs),(86,.slice A (Aim l) c),(87,U ((Aim l:Y):H)),(88,U i)],wq,Aim l-i)) (0,([]),v3,(.slice Aa 0 0),w3) ?_ ?_
      .exact⟨BD _,hpl,Z,fun j h=>absurd h (Nat.not_lt_zero _),by rw[List.append_nil];exact Bp.more b8 x2.size,Bp.nil _ _ _ _,gq,x3⟩
      .rintro⟨i,g,vu,vs,wq⟩⟨hi,W,K,ep,da,b5,bc,af⟩;refine(O 5)<|Zi (fun d=>?_) fun d=>?_
       .obtain⟨b,o,rfl,_,G⟩:=(hs.ext af).flat (l:=l) (i:=i) (c:=2) (fun _=>rfl) Bc d;have a0:l.take (i+1)=l.take i++[l[i]]:=(CR d).symm;have a8:=bl _ (BM d);have d2:=bn _ (BM d);rw[yX d]at W;have g4:(l.drop i).map Ez=Ez l[i]::(l.drop (i+1)).map Ez:=by rw[Ds d,Cp]
        have ba:∀p:Xt,30<=p.1->p.1+p.2<=4096->p.2=Ca (l[Aim g]'J)->Uf l (g++[p]):=fun p q1 q2 q3=>ep.snoc J q1 q2 q3;have df:=fun p=>yd (l:=l) (ps:=g) J p;have a7:=kR (l:=l) (ps:=g) J;rw[g4]at bc;have e0:l[Aim g]'J=l[i]:=by simp only[K]
        simp only[e0]at df ba;generalize l[i]=x at G a0 a8 d2 W bc df ba;have e8:=JN d2;have cm:=nf x J J;rw[jZ d2]at cm;simp only at cm;refine(O 7∘Zv (Do x.cells G)∘Zn) ?_;rintro xb w4 cj bx ai;refine(O 1∘Zs bx (hlt:=Bq _)) ?_;rintro w5 S bj;refine(O 4) ?_;replace S:Bk w5 xb 64 x.cells:=S;have x5:Bf wq w5:=Bv ai bj ai.size (fun k hk=>by simp at hk;omega);have xw:=af.trans x5;refine(O 3∘Zc (cm w5 (hG.ext xw))) ?_;rintro _ w6⟨rfl,P⟩;refine(O 12∘Cd 102∘O 18) ?_;have dn:=(bc.ext x5).ext P;have x6:=xw.trans P;refine(Zt dn (hlt:=by(simp only[BA,Vb,Cv,a7];omega))) ?_;rintro w7 bh dv;refine(O 2) ?_;obtain⟨R,hR⟩:∃R,R=(l.drop (i+1)).map Ez:=⟨_,Z⟩;rw[<-hR]at bh;have b1:i*6+3=0+i*6+1+2:=J;have b2:i*6+2=0+i*6+1+1:=J
        have ch:∀z,(CC (EI l g++Dw x (z,Ca x)::R)++rest)[0+i*6+1+2]? =X (U (Ca x)):=fun z=>by
         have:=Zz (EI l g) R (Dw x (z,Ca x)) rest 3 _ Z;rwa[a7,K,b1]at this
        have d0:∀z,(CC (EI l g++Dw x (z,Ca x)::R)++rest)[0+i*6+1+1]? =X (U z):=fun z=>by
         have:=Zz (EI l g) R (Dw x (z,Ca x)) rest 2 _ Z;rwa[a7,K,b2]at this
        replace bh:Bk w7 nb 116 (CC (EI l g++Dw x (0,Ca x)::R)++rest):=by
         have e:=ZA (EI l g) R (Ez x) rest 3 Bc (U (Ca x)) (Dw x (0,Ca x)) Z;rw[a7,K,b1]at e;rw[<-e];exact bh
        have x7:Bf w w7:=Bv x6 dv x6.size Bx;obtain⟨Aq,cq,rfl,_,_⟩:=da.slice
        have bb:=Bp.mo ((da.ext x5).ext P) dv fun k hk=>by
         obtain⟨_,l',I⟩:=((da.ext x5).ext P).blkT k hk;simpa using I.ne dn Bc
        have ce:=Bp.mo ((b5.ext x5).ext P) dv fun k hk=>by
         obtain⟨_,l',I⟩:=((b5.ext x5).ext P).blkT k hk;simpa using I.ne dn Bc
        have cf:=fun w C hs=>gD (E0++g) Bh V.D.cap (Ca x) Aq cq C w hs;rw[BA,K]at cf
        have ei:∀w8,Bf w7 w8->Sl w8 w8.heap.size Aq (Eg (E0++g)):=fun w8 L=>by
         obtain⟨_,_,e,_,sl⟩:=(bb.ext L).slice;grind
        obtain⟨f,hf⟩:∃f,f=ER (E0++g) V.D.cap (Ca x):=⟨_,Z⟩;rw[<-hf]at cf W;have h3:0<=Ca x/\Ca x<=100000:=by unfold Ca;omega
        refine Qb (N:=20) (fun w'=>Bf w w'/\∃z:H,Bk w' nb 116 (CC (EI l g++Dw x (z,Ca x)::R)++rest)) Be Z ?_;have r:=(⟨x7.trans (Bf.drew w7),0,bh.drew⟩:Bf w w7.drew/\∃z:H,Bk w7.drew nb 116 (CC (EI l g++Dw x (z,Ca x)::R)++rest));refine GW.val 0 Z Be Be Be Z Z r (fun w' y=>EX.move Z) ?_;refine GW.val 1 Z Be Be Be Z Z r (fun w' y=>EX.move Z) ?_;refine GW.val 2 Z Be Be Be Z Z r (fun w' y=>EX.move Z) ?_;refine GW.val 3 Z Be Be Be Z Z r (fun w' y=>DV Z) ?_;refine GW.val 4 Z Be Be Be Z Z r (fun w' y=>Dn (off:=0) underlying82 Z Z VP Z Z) ?_;refine GW.val 5 Z Be Be Be Z Z r (fun w' y=>Dn (off:=0) underlying80 Z Z bg Z Z) ?_;refine GW.val 6 Z Be Be Be Z Z r (fun w' y=>Cg underlying26 Z Z ((hu.bk.ext y.1).cell_of Z)) ?_;refine GW.val 8 Z Be Be Be Z Z r (fun w' y=>EX.move Z) ?_;refine GW.val 9 Z Be Be Be Z Z r (fun w' y=>DV Z) ?_;refine GW.val 10 Z Be Be Be Z Z r (fun w' y=>Dn (off:=2) underlying60 Z Z BU Z Z) ?_;refine GW.val 11 Z Be Be Be Z Z r (fun w' y=>Cg underlying3 Z Z (Exists.elim y.2 fun z h=>h.cell_of (ch z))) ?_;refine GW.call 7 Z Be Z Z Z (Ij (h.ext r.1).dev ho.dev) ?_;rintro _ _⟨rfl,rfl⟩;refine⟨r,fun r=>?_⟩;refine(Yc 12 (cf _ _ (ei _ (Bf.drew w7)))) ?_;rintro _ w8⟨rfl,L⟩;refine⟨⟨r.1.trans L,r.2.imp fun _ h=>h.ext L⟩,fun r=>?_⟩;refine(Gv [13,14,15,16,17]) ?_;have dk:=bh.drew.ext L;refine(Yt 18 dk (hlt:=by(simp only[BA,Vb,Cv,a7];omega))) ?_;rintro w9 gp ds;refine⟨⟨Bv r.1 ds r.1.size Bx,f.1,by(have e:=ZA (EI l g) R (Dw x (0,Ca x)) rest 2 Bc (U f.1) (Dw x (f.1,Ca x)) Z;grind)⟩,fun r=>?_⟩;refine(Gv [19]∘Yd∘O 6) ?_
        have ew:Bk w9 nb 116 (CC (EI l g++Dw x (f.1,Ca x)::R)++rest):=by
         have e:=ZA (EI l g) R (Dw x (0,Ca x)) rest 2 Bc (U f.1) (Dw x (f.1,Ca x)) Z;rw[a7,K,b2]at e;rw[<-e];exact gp
        have fi:=r.1
        have ao:=Bp.mo ((bb.ext (Bf.drew w7)).ext L) ds fun k hk=>by
         obtain⟨_,l',I⟩:=((bb.ext (Bf.drew w7)).ext L).blkT k hk;simpa using I.ne dk Bc
        have er:=Bp.mo ((ce.ext (Bf.drew w7)).ext L) ds fun k hk=>by
         obtain⟨_,l',I⟩:=((ce.ext (Bf.drew w7)).ext L).blkT k hk;simpa using I.ne dk Bc
        refine Zi (fun f8=>?_) fun f8=>?_
        .have hz:f.2≠0:=J;rw[Ai hz]at W;rw[W];simp only;rw[Ai hz];refine(O 5∘Bu) ?_;exact⟨Z,h.ext r.1,Tm.Age r.1 _ _⟩
        .have hz:f.2=0:=J;rw[Ag J]at W
         obtain⟨f1,f2,f3,f4⟩:1<=Ca x/\30<=f.1/\f.1+Ca x<=4096/\True:=by
          obtain⟨q1,q2,q3⟩:=Yq (hf▸hz);rw[<-hf]at q3;have:=q3.1.1;have:=q3.1.2.1;simp;omega
         refine(O 2∘Yr 13 (fun w'=>Bf w w'/\Bk w' nb 116 (CC (EI l g++Dw x (f.1,Ca x)::R)++rest)) (HZ (r.1.trans (Bf.drew w9)) ew.drew)) fun r=>(Gv [0,1,2,3]∘Yw 4 (he:=by exact fun _ y=>Bo y.2 (hi:=d0 f.1))∘Gv [5,6,7]∘Yw 8 (he:=by exact fun _ y=>Bo y.2 (hi:=ch f.1))∘Gv [9]) ?_;refine Gu 10 1 ([xcells (f.1,Ca x)]) Z Be Z Z underlying118 LL Z Bc Z Z Z (by repeat' (first|exact La _|refine KZ.2 ⟨by first|rfl|assumption,?_⟩)) Bc ?_;rintro eb h1 g1 co a9;refine⟨⟨r.1.trans a9,r.2.ext a9⟩,fun r=>?_⟩
         have f0:∀k,(Value.slice Aq (Aim E0+i) cq).ownBlock=X k->k≠nb:=fun k hk=>by
          obtain⟨_,l',I⟩:=ao.blkT k hk;exact I.ne ew Bc
         have a3:=(Bf.drew w9).trans a9;refine GW.append 11 0 Z Be Z Z underlying118 LL Z Bc Z Z ((ao.ext a3).more (BD _)) (Src.Agh (m:=1) underlying118 (Sl.Agf co co.lt) Z (VW [(f.1,Ca x)]) Bc) CE J (BD _) ?_;rintro d9 fn cx bm ef;refine⟨⟨r.1.grown bm fun k hk=>(ao.lt k hk).1,r.2.grown bm fun e=>f0 nb e.symm Z⟩,fun r=>?_⟩;refine(Gv [12]∘Yd∘O 3) ?_;have a1:=Bp.apart (er.ext a3) (ao.ext a3) Bc bm;refine(GZ r.1 a1) ?_;rintro _ fr fl cv fd ck hq;refine(O 7) ?_
         have c9:Bp fn w.heap.size 121 2 d9 (Aim E0+(i+1)) (Eg (E0++(g++[(f.1,Ca x)]))):=by
          rw[<-Cq,PN,show Aim E0+(i+1)=Aim E0+i+1 from Z];refine Bp.base (by simpa using cx) fun k hk=>?_;rcases ef with e|e
          .exact(ao.lt k Bh).1
          .rw[e]at hk;injection hk with hk;have:=fi.size;have:=a3.size;omega
         have c8:=Bp.apart c9 a1 Bc ck
         have g7:=r.2.grown ck fun e=>by
          obtain⟨_,l',I⟩:=a1.blkT nb e.symm;exact I.ne r.2 Bc Z
         refine Lb ((i+1),(g++[(f.1,Ca x)]),d9,fr,fl) ?_;exact⟨d,W,by simp;omega,ba _ f2 f3 Z,c8,by rw[a0,DX,Ma,bv];exact cv,by rw[df];simpa[hR]using g7,fd⟩
       .obtain rfl:i=Aim l:=J;rw[yY]at W;rw[W];simp only;rw[Ag (fun h=>h Z)];have e6:putF V l g=if(Dg V ((Aim l+1:Y):H)).2≠0 then Dg V ((Aim l+1:Y):H)else Mm (Dg V ((Aim l+1:Y):H)).1 (writeX (Dg V ((Aim l+1:Y):H)).1.D (g.zip l)) (HJ Dw l g):=Ag b7;rw[e6];clear e6;rw[IK,EO,List.append_nil]at bc;rw[DY]at b5;have gt:Aim l≠0:=fun q=>b7 (List.length_eq_zero_iff.1 q);have cr:=ak (hu.ext af) ho J (DR.ext hG.mlen af) ((Aim l+1:Y):H) J;obtain⟨al,gk⟩:=ah ho ((Aim l+1:Y):H);have el:=al.sm;have em:=al.dev;generalize Dg V ((Aim l+1:Y):H)=R at cr al gk el em;refine(O 8∘Cd 154∘O 11∘Zc cr) ?_;rintro _ wd⟨rfl,hd,td⟩;refine(O 7) ?_;have ct:Tm w wd B vty:=(Tm.Age af _ _).trans td;have bf:=td.bk bc Bc;have cd:=td.own b5 Bc;refine Zi (fun f6=>?_) fun f6=>?_
        .rw[Ai (show R.2≠0 by omega)];refine(O 5∘Bu) ?_;exact⟨Z,hd.at_,ct⟩
        .rw[Ag (show ¬R.2≠0 by omega)];obtain⟨As,cs,rfl,_,_⟩:=cd.slice;refine(O 9)<|Lo (fun((i,D,wr):Y×Dv×Ad)=>(i<=Aim l/\writeX R.1.D (g.zip l)=writeX D ((g.zip l).drop i)/\D.Ok/\Sm D (k+6+i*4096)/\VAu wr B vb db { R.1 with D:=D } (.slice Au (Aim V.mems) cu)/\Tm wd wr B vty,[(0,.pointer (X ⟨vb,0,Aa⟩)),(8,.slice (X ⟨nb,0,Aa⟩) (Aim l) cn),(165,.slice As (Aim l) cs),(166,U ((Aim l:Y):H)),(167,U i)],wr,Aim l-i)) (0,R.1.D,wd) ?_ ?_
         .exact⟨BD _,Z,em,el,hd,Tm.refl _ _ _⟩
         .rintro⟨i,D,wr⟩⟨hi,a6,fb,fa,hv,tr⟩;refine(O 5)<|Zi (fun d=>?_) fun d=>?_
          .rw[Afq K d]at a6;obtain⟨p1,p2,p3⟩:=ep i J d;have f9:=bn _ (BM d);have g2:=kQ K d rest 2 (v:=U (g[i]'J).1) Z;have g3:=kQ K d rest 3 (v:=U (g[i]'J).2) Z;obtain⟨_,_,e,_,fu⟩:=(tr.own cd Bc).slice;cases e;obtain⟨sb,so,rfl,_,d4⟩:=VS fu (i:=i) Bh;rw[Ou]at d4;have e8:=JN f9;generalize g[i]'J=p at a6 p1 p2 p3 g2 g3;generalize l[i]=x at a6 p3 d4 e8;obtain⟨a,ha⟩:∃a:Y,p.1=(a:H):=⟨p.1.toNat,J⟩;rw[ha]at a6 p1 p2 g2;rw[p3]at p2 g3;unfold Ca at p2 g3;obtain⟨n,hn⟩:∃n,n=Aim (Cj x)/512:=⟨_,Z⟩;rw[<-hn]at p2 g3;have b1:i*6+3=0+i*6+1+2:=J;have b2:i*6+2=0+i*6+1+1:=J;rw[b1]at g3;rw[b2]at g2;have gl:=tr.bk bf Bc;refine(O 7∘Zv (BZ d4)∘O 10∘Zv (Bo gl (hi:=g3))∘O 3)<|Lo (fun((j,E,w2):Y×Dv×Ad)=>(j<=n/\writeX R.1.D (g.zip l)=aW (writes E (a+j) ((EG (Cj x)).drop j)) ((g.zip l).drop (i+1))/\E.Ok/\Sm E (k+6+i*4096+j)/\VAu w2 B vb db { R.1 with D:=E } (.slice Au (Aim V.mems) cu)/\Tm wd w2 B vty,[(0,.pointer (X ⟨vb,0,Aa⟩)),(8,.slice (X ⟨nb,0,Aa⟩) (Aim l) cn),(165,.slice (X ⟨sb,so,Aa⟩) (Aim l) cs),(166,U ((Aim l:Y):H)),(167,U i),(20,U i),(21,Bj ((Cj x))),(177,U n),(178,U j)],w2,n-j)) (0,D,wr) ?_ ?_
           .grind
           .rintro⟨j,E,w2⟩⟨hj,aj,d8,d7,b3,te⟩;refine(O 5)<|Zi (fun g0=>?_) fun g0=>?_
            .rw[Afs J]at aj;have gn:=te.bk bf Bc;have bs:=b3.bk;obtain⟨s,hs5⟩:∃s,s=((Cj x).drop (j*512)).take 512:=⟨_,Z⟩;have hr:Aim s<=512:=by rw[hs5,BY];omega
             have cw:=fun w1 hd=>Tq (w:=w1) (B:=B) (b:=db) hd d8 (d7.small J) ((a+j:Y):H) J J s J;have c4:=NZ d8 ((a+j:Y):H) s;have c5:=PM d7 ((a+j:Y):H) s;rw[<-hs5]at aj;generalize E.write ((a+j:Y):H) s=q at aj cw c4 c5;have gg:s=((Cj x).drop (j*512)).take ((j+1)*512-j*512):=by rw[hs5,show(j+1)*512-j*512=512 by omega]
             rw[gg]at cw;have h4:(j+1)*512<=Aim (Cj x):=J;refine(O 9∘Yr 22 (fun w'=>Bk w' vb 82 (HC db { R.1 with D:=E } (.slice Au (Aim V.mems) cu))/\Bk w' nb 116 (CC (EI l g)++rest)) (HZ bs.drew gn.drew)) fun r=>(Gv [0,1,2,3,4,5,6,7,8,9]∘Yw 10 (he:=by exact fun _ y=>Bo y.2 (hi:=g2))∘Gv [11,12,13,14,15,16,17,18]∘Yw 19 (he:=by exact fun _ _=>Oo underlying9 Z Z Z J)∘Yc 20 (cw _ (b3.ext (Bf.drew w2)).dev)) ?_;rintro _ w3⟨rfl,g6,t3⟩;refine⟨⟨t3.bk r.1 Bc,t3.bk r.2 Bc⟩,fun r=>?_⟩;refine(Gv [21]∘Yd∘O 5) ?_;have gf:VAu w3 B vb db { R.1 with D:=q.1 } (.slice Au (Aim V.mems) cu):=(b3.ext (Bf.drew w2)).dev_tm g6 t3;have fs:Tm wd w3 B vty:=te.trans ((Tm.Age (Bf.drew w2) _ _).trans (Tm.vty t3));refine Zi (fun d3=>?_) fun d3=>?_
             .have Q:q.2≠0:=J;rw[Ag Q]at aj;rw[aj,show aW q ((g.zip l).drop (i+1))=q from Ai Q,Xa Q];refine(O 6∘Zc (OU gf q.2)) ?_;rintro _ w4⟨rfl,ee,t4⟩;refine(O 2∘Bu) ?_;rw[show(({ R.1 with D:=q.1 }:Vl).broken||decide (q.2≠0))=Af by rw[AM Q,Bool.or_true]]at ee;exact⟨Z,ee.at_,ct.trans (fs.trans t4)⟩
             .rw[Ai (show q.2=0 by omega)]at aj;refine(O 6)<|Lb ((j+1),q.1,w3) ?_;grind
            .obtain rfl:j=n:=J;rw[Ot (by rw[Mr];omega),writes]at aj;refine(O 6)<|Lb ((i+1),E,w2) ?_;exact⟨J,aj,d8,d7.more J,b3,te⟩
          .obtain rfl:i=Aim l:=J;rw[Ot Bh,writeX]at a6;rw[a6,Xb];have h6:=hv.bk;have fc:=Rs hv.dev fb (fa.small J);have c6:=aN fb;have c7:=aO fa;generalize D.sync=s at fc c6 c7;refine(O 9∘Zc fc) ?_;rintro _ we⟨rfl,g5,te⟩;refine(O 7) ?_;have he:VAu we B vb db { R.1 with D:=s.1 } (.slice Au (Aim V.mems) cu):=hv.dev_tm g5 te;have cp:Tm w we B vty:=ct.trans (tr.trans (Tm.vty te));refine Zi (fun d3=>?_) fun d3=>?_
           .have Q:s.2≠0:=J;rw[Ai Q];refine(O 6∘Zc (OU he s.2)) ?_;rintro _ wg⟨rfl,ed,tg⟩;refine(O 2∘Bu) ?_;rw[show(({ R.1 with D:=s.1 }:Vl).broken||decide (s.2≠0))=Af by rw[AM Q,Bool.or_true]]at ed;exact⟨Z,ed.at_,cp.trans tg⟩
           .rw[Ag (show ¬s.2≠0 by omega)];have bs:=te.bk (tr.bk bf Bc) Bc;have gc:VOk { R.1 with D:=s.1 } (k+6+Aim l*4096+1):=⟨c6,c7,al.gen,al.next,al.ok,al.len,al.path⟩;have f7:Aim (HJ Dw l g)=Aim l:=by rw[List.length_zipWith];omega
            rw[yc K]at bs
            have b9:∀w',Bk w' nb 116 (CC (HJ Dw l g)++rest)->Sl w' (nb+1) (X ⟨nb,0,Aa⟩) (CC (HJ Dw l g)):=fun w' hb=>by
             have:=(Sl.Agf hb (OC _)).pre (Aim (CC (HJ Dw l g)));grind
            have et:=fun n hn=>Agc (ps:=g) bl (n:=n) hn;have cc:=XG he.at_ gc J (LD hG.mlen cp e7) e7 (HJ Dw l g) J et (X ⟨nb,0,Aa⟩) cn (nb+1) (b9 _ bs) (fun w' t=>b9 _ (t.bk bs Bc));rw[f7]at cc;refine(O 7∘Zc cc) ?_;rintro _ wh⟨rfl,gd,th⟩;refine(O 2∘Bu) ?_;exact⟨Z,gd,cp.trans th⟩
end
section
variable{w w':Ad}{B vb db:Y}{V V':Vl}{k:Y}
def WZ(h:VAt w B vb db V)(j:VOk V k)(hk:k<=700000000)(m:Env w)(e:0<B)(x:En)(l:Aim x.path<=1000000/\Aim x.data<=1000000000):
 Bn prog 25 [.pointer (X ⟨vb,0,Aa⟩),Bj x.path,Bj x.data] w fun v w'=>v=U (((EA V [x]).2:Y):H)/\VAt w' B vb db (EA V [x]).1/\Tm w w' B vty:=by
 refine Bw func25 Z ntmps25 Be Z ?_;refine(O 10) ?_;refine Mi 1 ([x.cells]) Z Z underlying31 Hj Z Bc Z Z Z (by repeat' (first|exact La _|refine KZ.2 ⟨by rfl,?_⟩)) Bc ?_;rintro nb g f d a;replace d:Bk g nb 64 (DN [x]):=d;refine(Zc (ZX (h.ext a) j hk (m.ext a) e [x] Bl (X ⟨nb,0,Aa⟩) 1 (nb+1) (Sl.Agf d (OC _)) (fun y p=>by grind))) ?_;rintro _ o⟨rfl,n,i⟩;refine(O 2∘Bu) ?_;exact⟨Z,n,(Tm.Age a _ _).trans i⟩
end
abbrev Oy:={ x:M// -1000000<=x.start/\x.start<=1000000 }
instance:Inhabited Oy:=⟨⟨⟨[],0,0,0,0⟩,Bc,Bc⟩⟩
def OL(x y:Oy):H:=x.1.start-y.1.start
def swoT:Go.Sort.SWO (fun a b:Oy=>decide (OL a b<0)) where
 irrefl x:=by
  rw[decide_eq_false_iff_not];unfold OL;omega
 trans x y z h1 h2:=by
  rw[decide_eq_true_eq]at*;unfold OL at*;omega
 ntrans x y z h1 h2:=by
  rw[decide_eq_false_iff_not]at*;unfold OL at*;omega
def yz(x y:Oy)(W:Ad):Bn prog 88 [.agg (x.1.cells).toArray,.agg (y.1.cells).toArray] W fun r W'=>r=U (OL x y)/\Gr W W':=by
 obtain⟨x,m,j⟩:=x;obtain⟨y,i,h⟩:=y;refine Bw func88 Z ntmps88 (by rfl) Z ?_;refine(O 2∘Zv (by exact EX.box (l:=x.cells) Z Z)) ?_;have d:=Bk.new W 60 x.cells;have g:=Gr.alloc W (.cells x.cells.toArray 60);generalize o:W.alloc (.cells x.cells.toArray 60)=w1 at d g;refine(Zv (by exact EX.box (l:=y.cells) Z Z)∘O 5) ?_;have e:=Bk.new w1 60 y.cells;have f:=Gr.alloc w1 (.cells y.cells.toArray 60);have a:=d.ext f.1;generalize n:w1.alloc (.cells y.cells.toArray 60)=w2 at e f a;have p:=g.trans f;refine(O 6∘Bu) ?_;exact⟨Z,p⟩
section
variable{w w':Ad}{B vb db:Y}{V V':Vl}{k:Y}
structure Ordd(l l':Ae M):Prop where
 perm:l'.Perm l
 sorted:l'.Pairwise fun x y=>x.start<=y.start
def yB(h:VAt w B vb db V)(hm:Aim V.mems<=1000000)(q:∀m∈V.mems,-1000000<=m.start/\m.start<=1000000):
 Bn prog 56 [.pointer (X ⟨vb,0,Aa⟩)] w fun v w'=>(∃L,Ordd V.mems L/\Bp w' w.heap.size 60 5 v (Aim L) (DH L))/\Bf w w':=by
 obtain⟨L,G⟩:∃L:Ae Oy,L.map (·.1)=V.mems:=⟨V.mems.attachWith _ q,Bl⟩;have A:Aim L=Aim V.mems:=by have:=Ar DW G;simpa using this
 have p:∀L:Ae Oy,L.flatMap (fun x=>x.1.cells)=DH (L.map (·.1)):=fun L=>by
  induction L with
  |nil=>rfl
  |cons x L ih=>rw[EY,Cp,ih];rfl
 refine Bw func56 Z ntmps56 Be Z ?_;refine(O 7∘Zc (UW h hm)) ?_;rintro D C⟨l,n⟩;refine(O 5) ?_;have a:Bp C w.heap.size 60 5 D (Aim L) (L.flatMap (fun x=>x.1.cells)):=by rw[p,G,A];exact l
 have P:=VC Tryz.Ahf (f:=79) Z func79 Be (e:=60) Z underlying60 Z Tn Bl (cells:=fun x:Oy=>x.1.cells) (fun _=>rfl) (fun x v E=>by simp[M.cells]at E;rcases E with rfl|rfl|rfl|rfl|rfl<;>rfl) OL swoT func88 Be w.heap.size L J D C a (fun W x y _=>yz x y W);refine(Zc P) ?_;rintro _ Q⟨rfl,L',g,d,r,o⟩;refine(O 6∘Bu) ?_;refine⟨⟨L'.map (·.1),⟨?_,?_⟩,?_⟩,Bv n o n.size (fun k I=>(a.lt k (Fb.1 I)).1)⟩
 .grind
 .rw[Mc,Ib];intro i j N K t;have:=d i j N K t;unfold OL at this;omega
 .rw[DQ,g.length_eq,<-p];omega
def rM{e:Ad}{u:Ah}{n:Y}(t:n<=1000000)(l:Ae Xt)(m:M)(hx:Bf e w)(g:Bp w e.heap.size 121 2 u n (Eg l)):
 Bn prog 58 [u,.agg m.cells.toArray] w fun v w'=>Bp w' e.heap.size 121 2 v (n+1) (Eg (l++[(m.start,m.sectors)]))/\Bf e w':=by
 obtain⟨A,c,rfl,_,_⟩:=g.slice;refine Bw func58 Z ntmps58 Be Z ?_;refine(O 2) ?_;refine DB Z Z Z ?_;rintro r p h j d;refine(O 10∘Ko (hx.trans d) (g.ext d)) ?_;rintro _ q o a f i;refine(O 2∘Bu) ?_;rw[PN];exact⟨a,f⟩
def uD(l:Ae M)(hl:Aim l<=1000000)(A:Av AC)(c C:Y)(w:Ad)(N:Sl w C A (DH l)):
 Bn prog 57 [.slice A (Aim l) c,.slice Aa 0 0,.func (.func 58) #[] #[]] w fun v w'=>Bp w' w.heap.size 121 2 v (Aim l) (Eg (BV l))/\Bf w w':=by
 refine Bw func57 Z ntmps57 (by rfl) Z ?_;refine(O 12)<|Lo (fun((i,n,wr):Y×Ah×Ad)=>(i<=Aim l/\Bp wr w.heap.size 121 2 n i (Eg (BV (l.take i)))/\Bf w wr,[(1,n),(2,.func (.func 58) #[] #[]),(9,.slice A (Aim l) c),(10,U ((Aim l:Y):H)),(11,U i)],wr,Aim l-i)) (0,(.slice Aa 0 0),w) ?_ ?_
 .exact⟨BD _,Bp.nil _ _ _ _,Bf.refl _⟩
 .rintro⟨i,n,wr⟩⟨S,f,D⟩;refine(O 5)<|Zi (fun a=>?_) fun a=>?_
  .obtain⟨b,o,rfl,_,d⟩:=(N.ext D).flat (l:=l) (i:=i) (c:=5) (fun _=>rfl) Bl a;have h:l.take (i+1)=l.take i++[l[i]]:=(CR a).symm;generalize l[i]=m at d h;refine(O 6∘Zv (Do m.cells d)∘Zn) ?_;rintro G P E r e;refine(Zs r (hlt:=Bq _)) ?_;rintro x g q;refine(O 4) ?_;replace g:Bk x G 60 m.cells:=g;have t:Bf wr x:=Bv e q e.size (fun k Q=>by grind);refine(Zv (Do m.cells (fun j u L=>by rw[FW];exact g.cell_of L))∘Ea (rM J (BV (l.take i)) m (D.trans t) (f.ext t))) ?_;rintro K I⟨y,p⟩;refine(O 7)<|Lb ((i+1),K,I) ?_;refine⟨a,?_,p⟩;rw[h,show BV (l.take i++[m])=BV (l.take i)++[(m.start,m.sectors)] by simp[BV]];omega
  .obtain rfl:i=Aim l:=J;rw[DA (Bq _)]at f;refine(O 6∘Bu) ?_;grind
end
noncomputable def Ih(V:Vl)(a:H)(m:M):Vl×Y:=
 if m.start-a<m.sectors/\m.start≠a then(if(ER (BV V.mems) V.D.cap m.sectors).2≠0 then(V,(ER (BV V.mems) V.D.cap m.sectors).2)else Hx V m.path (ER (BV V.mems) V.D.cap m.sectors).1)else(V,0)
noncomputable def Mw(R:Vl×Y)(a:H)(m:M):Vl×Y:=if R.2≠0 then R else if m.start≠a then Hx R.1 m.path a else(R.1,0)
def jn(V:Vl)(a:H)(m:M):Mw (V,0) a m=if m.start≠a then Hx V m.path a else(V,0):=Ag fun h=>h Z
def jm{R:Vl×Y}(h:R.2≠0)(a:H)(m:M):Mw R a m=R:=Ai h
noncomputable def Kw:Vl->H->Ae M->Vl×Y
 |V,_,[]=>KM V
 |V,a,m::r=>if(Mw (Ih V a m) a m).2≠0 then Mw (Ih V a m) a m else Kw (Mw (Ih V a m) a m).1 (a+m.sectors) r
noncomputable def Kx(V:Vl)(L:Ae M):Vl×Y:=if(EA V []).2≠0 then(V,(EA V []).2)else Kw V 30 L
def zv(V:Vl):(EA V []).1=V:=by
 unfold EA;split
 .rfl
 .show(if FT []≠0 then _ else _:Vl×Y).1=V;rw[Ag (fun h=>h Z)];unfold NL;rw[Ag (fun h=>h WF)];unfold LH;split
  .rfl
  .rfl
section
variable{w w':Ad}{B vb db:Y}{V V':Vl}{k:Y}
def fk(P:Vl->Y->Prop)(hP:∀V k,P V k->VOk V k)(hM:∀V k p tt,k<=700000000->P V k->P (Hx V p tt).1 (k+10000))(hm:∀V k k',P V k->k<=k'->P V k')
 (h:VAt w B vb db V) (ho:P V k) (hk:k<=600000000) (hG:Env w) (E:0<B) (bf:∀m∈V.mems,0<=m.start/\m.start<=5000/\0<=m.sectors/\m.sectors<=5000/\Aim m.path<=1000000):
 Bn prog 27 [.pointer (X ⟨vb,0,Aa⟩)] w fun v w'=>∃L,Ordd V.mems L/\v=U (((Kx V L).2:Y):H)/\VAt w' B vb db (Kx V L).1/\Tm w w' B vty:=by
 have a2:=hP _ _ ho;have a6:=a2.len;have cp:=ZX h a2 J hG E [] Bl Aa 0 0 (.inl Z) (fun x hx=>by grind);rw[zv]at cp;generalize bx:(EA V []).2=pe at cp;refine Bw func27 Z ntmps27 Be Z ?_;refine(O 8∘Zc cp) ?_;rintro _ w1⟨rfl,h1,t1⟩;refine(O 7)<|Zi (fun bh=>?_) fun bh=>?_
 .refine(O 5∘Bu) ?_
  have e:∀L,Kx V L=(V,pe):=fun L=>by
   unfold Kx;grind
  exact⟨_,⟨TS V.mems (fun x y=>decide (x.start<=y.start)),by
   have:=de (le:=fun x y:M=>decide (x.start<=y.start)) (fun a b c h1 h2=>by grind) (fun a b=>by grind) V.mems;grind⟩,by rw[e],Bh,t1⟩
 .have e:∀L,Kx V L=Kw V 30 L:=fun L=>by
   unfold Kx;grind
  refine(O 9∘Zc (yB h1 J (fun m hm=>by grind))) ?_;rintro v2 w2⟨⟨L,hO,W⟩,a0⟩;obtain⟨A,c,rfl,_,bs⟩:=W.slice;refine(O 4) ?_;have b5:Aim L<=1000:=by rw[hO.perm.length_eq];exact a6
  have a3:∀m∈L,0<=m.start/\m.start<=5000/\0<=m.sectors/\m.sectors<=5000/\Aim m.path<=1000000:=fun m hm=>bf m (hO.perm.mem_iff.1 hm);have t2:Tm w w2 B vty:=t1.trans (Tm.Age a0 _ _);refine Lo (fun((i,g,a,wr):Y×Vl×H×Ad)=>(i<=Aim L/\Kw V 30 L=Kw g a (L.drop i)/\P g (k+20000*i)/\30<=a/\a<=30+5000*i/\VAt wr B vb db g/\Tm w2 wr B vty,[(0,.pointer (X ⟨vb,0,Aa⟩)),(4,U (a:H)),(18,.slice A (Aim L) c),(19,U ((Aim L:Y):H)),(20,U i)],wr,Aim L-i)) (0,V,30,w2) ?_ ?_
  .exact⟨BD _,Z,ho,Bc,Bc,h1.ext a0,Tm.refl _ _ _⟩
  .rintro⟨i,g,a,wr⟩⟨hi,d,Q,b3,b2,hv,tr⟩;have tw:=t2.trans tr;refine(O 5)<|Zi (fun j=>?_) fun j=>?_
   .obtain⟨_,_,eA,_,a7⟩:=(tr.own W Bc).slice;cases eA;obtain⟨b,o,rfl,_,G⟩:=a7.flat (l:=L) (i:=i) (c:=5) (fun _=>rfl) Bc j;rw[Ds j,Kw]at d;obtain⟨q1,q2,q3,q4,q5⟩:=a3 _ (BM j);generalize L[i]=m at G d q1 q2 q3 q4 q5;refine(O 6∘Zv (Do m.cells G)∘Zn) ?_;rintro xb w4 bn bl ab;refine(Zs bl (hlt:=Bq _)) ?_;rintro w5 I bi;refine(O 3) ?_;replace I:Bk w5 xb 60 m.cells:=I;have x5:Bf wr w5:=Bv ab bi ab.size (fun k hk=>by grind);have t:=hv.ext x5;have t5:Tm w w5 B vty:=tw.trans (Tm.Age x5 _ _);refine Ld (fun((U1,wz):Vl×Ad)=>(Ih g a m=(U1,0)/\P U1 (k+20000*i+10000)/\VAt wz B vb db U1/\Tm w5 wz B vty,[(0,.pointer (X ⟨vb,0,Aa⟩)),(4,U (a:H)),(6,.pointer (X ⟨xb,0,Aa⟩)),(18,.slice (X ⟨b,o,Aa⟩) (Aim L) c),(19,U ((Aim L:Y):H)),(20,U i)],wz)) ?_ ?_
    .refine(O 9)<|Zd 31 (fun c1=>?_) fun c1=>?_
     .refine(O 6)<|Zi (fun c2=>?_) fun c2=>?_
      .have S:Ih g a m=if(ER (BV g.mems) g.D.cap m.sectors).2≠0 then(g,(ER (BV g.mems) g.D.cap m.sectors).2)else Hx g m.path (ER (BV g.mems) g.D.cap m.sectors).1:=Ai ⟨c1,c2⟩;have n:=hP _ _ Q;have b4:=n.len;have cf:=fun w C Aq cq hs=>gD (BV g.mems) (by rw[Mu];omega) g.D.cap m.sectors Aq cq C w hs;rw[Mu]at cf;have hf:=@Yq (BV g.mems) g.D.cap m.sectors;have bq:=n.dev.cap;generalize ER (BV g.mems) g.D.cap m.sectors=f at S cf hf;refine(O 3∘Zc (UW t J)) ?_;rintro v6 w6⟨ao,bb⟩;obtain⟨A6,c6,rfl,_,a5⟩:=ao.slice;refine(Zc (uD g.mems J A6 c6 _ w6 a5)) ?_;rintro v7 w7⟨al,ba⟩;obtain⟨A7,c7,rfl,_,a4⟩:=al.slice;refine(O 3) ?_;have ai:=bb.trans ba;refine(Yr 11 (fun w'=>Bf w7 w') (Bf.drew w7)) fun hS=>(Gv [0,1,3]∘Yw 4 (he:=by exact fun _ bm=>Bo ((I.ext ai).ext bm))∘Yc 2 (Afd ((t.ext ai).ext hS) n.dev)) ?_;rintro _ _⟨rfl,rfl⟩;refine⟨hS,fun hS=>?_⟩;refine(Yc 5 (cf _ _ A7 c7 (a4.ext hS))) ?_;rintro _ w8⟨rfl,a9⟩;refine⟨hS.trans a9,fun hS=>?_⟩;refine(Gv [6,7,8,9,10]∘Yd∘O 6) ?_;have af:=ai.trans hS;have T:Tm w5 w8 B vty:=Tm.Age af _ _;have bc:=t.ext af;have b1:=I.ext af;refine Zi (fun a8=>?_) fun a8=>?_
       .have r:f.2≠0:=J;rw[Ai r]at S;rw[S,jm (R:=(g,f.2)) r,Ai (show(g,f.2).2≠0 from r)]at d;refine(O 5∘Bu) ?_;exact⟨L,hO,Bh,Bh,t5.trans T⟩
       .have r:f.2=0:=J;rw[Ag (fun h=>h r)]at S;obtain⟨f1,f2,f3⟩:=hf r;have f4:=f3.1.1;have f5:=f3.1.2.1;have cm:=fun hG=>Zp bc n J hG E m.path J f.1 J J;have K:=hM _ _ m.path f.1 J Q;generalize Hx g m.path f.1=q at S cm K;refine(O 7∘Zc (cm (LD hG.mlen (t5.trans T) E))) ?_;rintro _ w9⟨rfl,h9,t9⟩;refine(O 7)<|Zi (fun aj=>?_) fun aj=>?_
        .have r:q.2≠0:=J;rw[S,jm r,Ai r]at d;refine(O 5∘Bu) ?_;exact⟨L,hO,by rw[e,d],by rw[e,d];exact h9,t5.trans (T.trans t9)⟩
        .refine(O 1∘Lm (q.1,w9)) ?_;exact⟨Bh,K,h9,T.trans t9⟩
      .have S:Ih g a m=(g,0):=Ag fun h=>c2 h.2;refine(O 1∘Lm (g,w5)) ?_;exact⟨S,hm _ _ _ Q J,t,Tm.refl _ _ _⟩
     .have S:Ih g a m=(g,0):=Ag fun h=>c1 h.1;refine(O 8∘Lm (g,w5)) ?_;exact⟨S,hm _ _ _ Q J,t,Tm.refl _ _ _⟩
    .rintro⟨U1,wz⟩⟨has,N,a1,tz⟩;have n:=hP _ _ N;have bj:=tz.bk I Bc;rw[has,jn]at d;refine(O 8)<|Zi (fun c3=>?_) fun c3=>?_
     .have cm:=fun hG=>Zp a1 n J hG E m.path J a J J;have K:=hM _ _ m.path a J N;rw[Ai c3]at d;generalize Hx U1 m.path a=q at d cm K;refine(O 6∘Zc (cm (LD hG.mlen (t5.trans tz) E))) ?_;rintro _ w9⟨rfl,h9,t9⟩;refine(O 7)<|Zi (fun aj=>?_) fun aj=>?_
      .have r:q.2≠0:=J;rw[Ai r]at d;refine(O 5∘Bu) ?_;exact⟨L,hO,by rw[e,d],by rw[e,d];exact h9,t5.trans (tz.trans t9)⟩
      .rw[Ag (show ¬q.2≠0 by omega)]at d;have b0:=t9.bk bj Bc;refine(O 13)<|Lb ((i+1),q.1,(a+m.sectors),w9) ?_;exact⟨j,d,hm _ _ _ K J,J,J,h9,tr.trans ((Tm.Age x5 _ _).trans (tz.trans t9))⟩
     .rw[Ag c3]at d;simp only at d;rw[Ag (fun h=>h Z)]at d;refine(O 13)<|Lb ((i+1),U1,(a+m.sectors),wz) ?_;exact⟨j,d,hm _ _ _ N J,J,J,a1,tr.trans ((Tm.Age x5 _ _).trans tz)⟩
   .obtain rfl:i=Aim L:=J;rw[IK,Kw]at d;refine(O 4∘Zc (ow hv (hP _ _ Q) J)) ?_;rintro _ w3⟨rfl,h3,t3⟩;refine(O 2∘Bu) ?_;exact⟨L,hO,by rw[e,d],Bh,t2.trans (tr.trans t3)⟩
end
def QD(l:Ae En)(x:En):DN (l++[x])=DN l++x.cells:=Bl
def QC(l:Ae En):∀u∈DN l,u.oneCell'=Af:=by
 intro u a;obtain⟨p,_,h⟩:=Ov.1 a;simp only[En.cells,List.mem_cons,List.not_mem_nil,or_false]at h;rcases h with rfl|rfl<;>rfl
def Sl.Agw{α:Type}{cells:α->Bm}{c:Y}{w:Ad}{B:Y}{A:Av AC}{l:Ae α}(h:Sl w B A (l.flatMap cells))(d:∀a,Aim (cells a)=c)(h0:0<c){i:Y}(hi:i<Aim l):
 ∃b o,A=X ⟨b,o,Aa⟩/\b<B/\∀w',Bf w w'->∀j u,(cells l[i])[j]? =X u->w'.cell? ⟨b,o+i*c+j,Aa⟩=X u:=by
 obtain⟨b,o,rfl,g,_⟩:=h.flat d h0 hi;refine⟨b,o,Z,g,fun w' f=>?_⟩;obtain⟨_,_,e,_,k⟩:=(h.ext f).flat d h0 hi;grind
structure MapS(w w':Ad)(mb rb ob:Y)(v:Ah):Prop where
 x:Bf w w'
 m:Bk w' mb 33 [v]
 r:Bk w' rb 33 [.slice Aa 0 0]
 o:∃u,Bk w' ob 33 [u]
def MapS.ext{w a b:Ad}{mb rb ob:Y}{v:Ah}(h:MapS w a mb rb ob v)(hx:Bf a b):MapS w b mb rb ob v:=⟨h.x.trans hx,h.m.ext hx,h.r.ext hx,h.o.imp fun _ q=>q.ext hx⟩
def MapS.drew{w a:Ad}{mb rb ob:Y}{v:Ah}(h:MapS w a mb rb ob v):MapS w a.drew mb rb ob v:=h.ext (Bf.drew a)
def MapS.grown{w a b:Ad}{l i j n:Y}{v u:Ah}{xs:Bm}(h:MapS w a l i j v)(y:Bp a w.heap.size 64 2 u n xs)(d:a.grownBy b u.ownBlock):MapS w b l i j v:=by
 have f:∀k p,Bk a k 33 p->X k≠u.ownBlock:=fun k p B e=>by
  obtain⟨_,C,g⟩:=y.blkT k e.symm;exact g.ne B Bl Z
 refine⟨h.x.grown d fun k A=>(y.lt k A).1,h.m.grown d (f _ _ h.m),h.r.grown d (f _ _ h.r),?_⟩;obtain⟨q,t⟩:=h.o;exact⟨q,t.grown d (f _ _ t)⟩
def MapS.put{w a b:Ad}{mb rb ob:Y}{v u:Ah}(h:MapS w a mb rb ob v)(hm:Mo a b [ob])(hb:Bk b ob 33 [u])(n1:ob≠mb)(n2:ob≠rb)(hz:w.heap.size<=ob):MapS w b mb rb ob v:=
 ⟨Bv h.x hm h.x.size (fun k hk=>by grind),h.m.mo hm Bh,h.r.mo hm Bh,u,hb⟩
def Fz(l:Ae En)(p:Bg):Ae En:=l.filter fun x=>decide (x.path≠p)
def Afj(l:Ae En)(hl:Aim l<=1000000)(p:Bg)(A:Av AC)(c C:Y)(w:Ad)(hs:Sl w C A (DN l)):
 Bn prog 34 [.agg #[.slice A (Aim l) c],Bj p] w fun v w'=>∃u,v=.agg #[u]/\Bp w' w.heap.size 64 2 u (Aim (Fz l p)) (DN (Fz l p))/\Bf w w':=by
 refine Bw func34 Z ntmps34 Be Z ?_;refine(O 2) ?_;refine DB Z Z Z ?_;rintro mb w1 bl a8 S;refine(Zn) ?_;rintro rb w2 bj a6 G;refine(O 4∘Zn) ?_;rintro Q w3 bi bh T;refine(Zs bh (hlt:=Bq _)) ?_;rintro w4 bf al;refine(O 7) ?_;have x13:=(S.trans G).trans T;have x4:Bf w w4:=Bv x13 al x13.size (fun k t=>by have:=S.size;have:=G.size;grind);have a1:Q≠mb:=by have:=a8.lt;have:=G.size;omega
 have a0:Q≠rb:=by have:=a6.lt;omega
 have a7:=((a8.ext G).ext T).mo al Bh;have a5:=(a6.ext T).mo al Bh;have a2:w.heap.size<=Q:=by have:=S.size;have:=G.size;omega
 refine Lo (fun((i,uo,wr):Y×Ah×Ad)=>(i<=Aim l/\Bk wr mb 33 [.slice A (Aim l) c]/\Bk wr rb 33 [.slice Aa 0 0]/\Bk wr Q 33 [uo]/\Bp wr w.heap.size 64 2 uo (Aim (Fz (l.take i) p)) (DN (Fz (l.take i) p))/\Bf w wr,[(1,Bj (p)),(2,.pointer (X ⟨mb,0,Aa⟩)),(4,.pointer (X ⟨rb,0,Aa⟩)),(5,.pointer (X ⟨Q,0,Aa⟩)),(6,U i)],wr,Aim l-i)) (0,(.slice Aa 0 0),w4) ?_ ?_
 .exact⟨BD _,a7,a5,bf,Bp.nil _ _ _ _,x4⟩
 .rintro⟨i,uo,wr⟩⟨hi,hm,hr,ho,f,V⟩;refine(O 9)<|Zi (fun j=>?_) fun j=>?_
  .obtain⟨b,o,rfl,_,D⟩:=hs.Agw (l:=l) (i:=i) (c:=2) (fun _=>rfl) Bc j;have af:l.take (i+1)=l.take i++[l[i]]:=(CR j).symm;have bm:Aim (Fz (l.take i) p)<=1000000:=BF (List.length_filter_le _ _) Bh;generalize l[i]=x at D af;refine(O 10∘Zv (BZ (D wr V 0 _ Z))∘O 3)<|Zi (fun aj=>?_) fun aj=>?_
   .have W:Fz (l.take (i+1)) p=Fz (l.take i) p++[x]:=by
     rw[af];unfold Fz;rw[KY];simp[aj]
    have ai:=ho.ext (Bf.drew wr);refine Lc (fun((P,E):Ah×Ad)=>(Bk E Q 33 [P]/\Bk E mb 33 [.slice (X ⟨b,o,Aa⟩) (Aim l) c]/\Bk E rb 33 [.slice Aa 0 0]/\Bp E w.heap.size 64 2 P (Aim (Fz (l.take i) p)+1) (DN (Fz (l.take i) p++[x]))/\Bf w E,[(1,Bj (p)),(2,.pointer (X ⟨mb,0,Aa⟩)),(4,.pointer (X ⟨rb,0,Aa⟩)),(5,.pointer (X ⟨Q,0,Aa⟩)),(6,U i)],E)) ?_ ?_
    .obtain⟨Ao,co,rfl,_,_⟩:=f.slice;refine(Yr 11 (fun w'=>MapS w w' mb rb Q (.slice (X ⟨b,o,Aa⟩) (Aim l) c)) (MapS.drew ⟨V,hm,hr,_,ho⟩)) fun h=>(Gv [0,2]∘Yw 3 (he:=by exact fun _ ao=>Bo ao.m)∘Gv [4,5]∘Yw 6 (he:=by exact fun w' ao=>Do x.cells (D w' ao.x)))<|Ye 1 7 ?_ ?_
     .refine(Jo 1 (he:=by exact Bo ai)) fun h=>?_;refine Gu 7 1 ([x.cells]) Z Be Z Z underlying31 Hj Z Bc Z Z Z (by repeat' (first|exact La _|refine KZ.2 ⟨by first|rfl|assumption,?_⟩)) Bc ?_;rintro eb w5 a4 N y;refine⟨h.ext y,fun h=>?_⟩;have g:=ai.ext y;have x5:=(Bf.drew wr).trans y;have a:=f.ext x5;refine GW.append 8 0 Z Be Z Z underlying31 Hj Z Bc Z Z (a.more (BD _)) (Src.Agh (m:=1) underlying31 (Sl.Agf N N.lt) Z (QC [x]) Bc) CE J (BD _) ?_;rintro P E q K ab;refine⟨MapS.grown h a K,fun h=>?_⟩;refine(Gv [9]) ?_
      have B:=g.grown K fun e=>by
       obtain⟨_,l',n⟩:=a.blkT Q e.symm;exact n.ne g Bc Z
      refine(Yt 10 B (hlt:=Bq _)) ?_;rintro w7 L I;refine⟨MapS.put h I L a1 a0 a2,fun h=>?_⟩;refine(Yd) ?_
      have d:Bp E w.heap.size 64 2 P (Aim (Fz (l.take i) p)+1) (DN (Fz (l.take i) p++[x])):=by
       rw[QD];refine Bp.base (by simpa using q) fun k t=>?_;rcases ab with e|e
       .exact(a.lt k (by rw[<-e];exact t)).1
       .rw[e]at t;injection t with t;have:=V.size;have:=x5.size;omega
      refine(Lm (P,w7)) ?_
      exact⟨L,h.m,h.r,Bp.mo d I fun k t=>by
       obtain⟨_,l',n⟩:=d.blkT k t;simpa using n.ne B Bc,h.x⟩
     .refine TC 7 1 ([x.cells]) Z Z Z underlying31 Hj Z Bc Z Z Z (by repeat' (first|exact La _|refine KZ.2 ⟨by first|rfl|assumption,?_⟩)) Bc ?_;rintro eb w5 a4 N y;refine⟨h.ext y,fun h=>?_⟩;have g:=ai.ext y;refine(Yo 1 (he:=by exact Bo g)) fun h=>?_;have x5:=(Bf.drew wr).trans y;have a:=f.ext x5;refine GW.append 8 0 Z Be Z Z underlying31 Hj Z Bc Z Z (a.more (BD _)) (Src.Agh (m:=1) underlying31 (Sl.Agf N N.lt) Z (QC [x]) Bc) CE J (BD _) ?_;rintro P E q K ab;refine⟨MapS.grown h a K,fun h=>?_⟩;refine(Gv [9]) ?_
      have B:=g.grown K fun e=>by
       obtain⟨_,l',n⟩:=a.blkT Q e.symm;exact n.ne g Bc Z
      refine(Yt 10 B (hlt:=Bq _)) ?_;rintro w7 L I;refine⟨MapS.put h I L a1 a0 a2,fun h=>?_⟩;refine(Yd) ?_
      have d:Bp E w.heap.size 64 2 P (Aim (Fz (l.take i) p)+1) (DN (Fz (l.take i) p++[x])):=by
       rw[QD];refine Bp.base (by simpa using q) fun k t=>?_;rcases ab with e|e
       .exact(a.lt k (by rw[<-e];exact t)).1
       .rw[e]at t;injection t with t;have:=V.size;have:=x5.size;omega
      refine(Lm (P,w7)) ?_
      exact⟨L,h.m,h.r,Bp.mo d I fun k t=>by
       obtain⟨_,l',n⟩:=d.blkT k t;simpa using n.ne B Bc,h.x⟩
    .rintro⟨P,E⟩⟨B,bb,ba,q,a9⟩;refine(O 6)<|Lb ((i+1),P,E) ?_;dsimp only;rw[W,BA];exact⟨j,bb,ba,B,q,a9⟩
   .have W:Fz (l.take (i+1)) p=Fz (l.take i) p:=by
     rw[af];unfold Fz;rw[KY];simp[aj]
    refine(O 7)<|Lb ((i+1),uo,wr) ?_;dsimp only;rw[W];exact⟨j,hm,hr,ho,f,V⟩
  .obtain rfl:i=Aim l:=J;rw[DA (Bq _)]at f;refine(O 3∘Zv (Cf ho)) ?_;have xr:Bf wr wr:=Bf.refl _;refine(Zs hr (hlt:=Bq _)) ?_;rintro w8 bc a3;refine(O 1∘Kn bc) ?_
   exact⟨uo,Z,Bp.mo f a3 fun k t=>by
    obtain⟨_,l',n⟩:=f.blkT k t;simpa using n.ne hr Bc,Bv V a3 V.size (by simp;have:=S.size;omega)⟩
def MapS.ne{a:Ad}{B n T b:Y}{u:Ah}{xs l:Bm}(f:Bp a B 64 2 u n xs)(g:Bk a b T l)(h:64≠T):X b≠u.ownBlock:=fun e=>by
 obtain⟨_,i,d⟩:=f.blkT b e.symm;exact d.ne g h Z
def Zw{a b:Y}{v u:Ah}(h:v.ownBlock=u.ownBlock∨v.ownBlock=X b)(d:X a≠u.ownBlock)(hl:a<b):X a≠v.ownBlock:=fun e=>by
 grind
def GL(x:En)(r:Ae En×Aw)(y:En):Ae En×Aw:=
 (r.1++(if FX x.path y.path<=0/\r.2=Aj then[x]else[])++(if FX x.path y.path≠0 then[y]else[]),r.2||decide (FX x.path y.path<=0))
def ET(x:En)(l:Ae En):Ae En×Aw:=l.foldl (GL x) ([],Aj)
def De(l:Ae En)(x:En):Ae En:=if(ET x l).2 then(ET x l).1 else(ET x l).1++[x]
def Afg(x:En)(l:Ae En)(y:En):ET x (l++[y])=GL x (ET x l) y:=by
 unfold ET;simp
def oN(x:En)(l:Ae En):Aim (ET x l).1<=2*Aim l:=by
 have a:∀(l:Ae En) (r:Ae En×Aw),Aim (l.foldl (GL x) r).1<=Aim r.1+2*Aim l:=fun l=>by
  induction l with
  |nil=>simp
  |cons y l ih=>
   intro r;refine BF (ih _) ?_
   have:Aim (GL x r y).1<=Aim r.1+2:=by
    unfold GL;rw[BA,BA];split<;>split<;>simp<;>omega
   grind
 have:=a l ([],Aj);simpa[ET]using this
def oP(l:Ae En)(hl:Aim l<=1000000)(x:En)(A:Av AC)(c C:Y)(w:Ad)(hG:DR w)(ca:Aim x.path<=2000000)(cd:∀y∈l,Aim y.path<=2000000)(hs:Sl w C A (DN l)):
 Bn prog 33 [.agg #[.slice A (Aim l) c],.agg x.cells.toArray] w fun v w'=>∃u,v=.agg #[u]/\Bp w' w.heap.size 64 2 u (Aim (De l x)) (DN (De l x))/\Bf w w':=by
 refine Bw func33 Z ntmps33 Be Z ?_;refine(O 2) ?_;refine DB Z Z Z ?_;rintro mb w1 cl b9 bs;refine DB Z Z Z ?_;rintro xb w2 ck ba bf;refine(Zn) ?_;rintro rb w3 cj b6 a6;refine(O 4∘Zn) ?_;rintro N w4 ch cf a5;replace ba:Bk w2 xb 64 x.cells:=ba;refine(Zs cf (hlt:=Bq _)) ?_;rintro w5 b4 a9;refine(O 11) ?_;have bn:=((bs.trans bf).trans a6).trans a5;have z1:=bs.size;have z2:=bf.size;have z3:=a6.size;have l1:=b9.lt;have l2:=ba.lt;have l3:=b6.lt;have a4:N≠mb:=J;have a3:N≠rb:=J;have a2:N≠xb:=J;have a8:w.heap.size<=N:=J;have x5:Bf w w5:=Bv bn a9 bn.size (fun k I=>by grind);have b8:=(((b9.ext bf).ext a6).ext a5).mo a9 Bh;have b7:=((ba.ext a6).ext a5).mo a9 (by simpa using a2.symm);have b5:=(b6.ext a5).mo a9 Bh;refine Lo (fun((i,dv,uo,wr):Y×Aw×Ah×Ad)=>(i<=Aim l/\dv=(ET x (l.take i)).2/\MapS w wr mb rb N (.slice A (Aim l) c)/\Bk wr xb 64 x.cells/\Bk wr N 33 [uo]/\X xb≠uo.ownBlock/\Bp wr w.heap.size 64 2 uo (Aim (ET x (l.take i)).1) (DN (ET x (l.take i)).1),[(2,.pointer (X ⟨mb,0,Aa⟩)),(3,.pointer (X ⟨xb,0,Aa⟩)),(4,.pointer (X ⟨rb,0,Aa⟩)),(5,.pointer (X ⟨N,0,Aa⟩)),(6,.bool dv),(7,U i)],wr,Aim l-i)) (0,Aj,(.slice Aa 0 0),w5) ?_ ?_
 .exact⟨BD _,Z,⟨x5,b8,b5,_,b4⟩,b7,b4,nofun,Bp.nil _ _ _ _⟩
 .rintro⟨i,dv,uo,wr⟩⟨hi,a0,hM,bl,ho,b1,B⟩;have hx:=hM.x;refine(O 5∘Zv (Bo hM.m)∘O 3)<|Zi (fun q=>?_) fun q=>?_
  .obtain⟨b,o,rfl,_,W⟩:=hs.Agw (l:=l) (i:=i) (c:=2) (fun _=>rfl) Bc q;have bx:l.take (i+1)=l.take i++[l[i]]:=(CR q).symm
   have a7:Aim (ET x (l.take i)).1<=2000000:=by
    have:=oN x (l.take i);rw[BY]at this;omega
   have bq:=cd _ (BM q);generalize l[i]=y at W bx bq;have aj:=Afg x (l.take i) y;rw[<-bx]at aj;generalize ET x (l.take i)=r at aj B a7 a0;obtain⟨os,dn⟩:=r;simp only at B a7 a0;subst a0;refine(O 4∘Yr 10 (fun w'=>Bf wr w') (Bf.drew wr)) fun g=>(Gv [0]∘Yw 1 (he:=by exact fun _ L=>Bo (bl.ext L))∘Gv [2]∘Yw 3 (he:=by exact fun _ L=>Bo ((hM.ext L).m))∘Gv [4,5,6]∘Yw 7 (he:=by exact fun w' L=>BZ (W w' (hx.trans L) 0 _ Z))∘Yc 8 (fe x.path y.path ca bq _ ((hG.ext hx).ext g))) ?_;rintro _ T⟨rfl,cc⟩;refine⟨g.trans cc,fun g=>?_⟩;refine(Gv [9]∘Yd∘O 2) ?_;have S:=hM.ext g;have Q:=bl.ext g;have ai:=ho.ext g;have h:=B.ext g;generalize b3:FX x.path y.path=cv at aj;refine Ld (fun((p,d1,v1,wz):(Ae En)×Aw×Ah×Ad)=>(p=os++(if cv<=0/\dv=Aj then[x]else[])/\d1=or dv (decide (cv<=0))/\MapS w wz mb rb N (.slice (X ⟨b,o,Aa⟩) (Aim l) c)/\Bk wz xb 64 x.cells/\Bk wz N 33 [v1]/\X xb≠v1.ownBlock/\Bp wz w.heap.size 64 2 v1 (Aim p) (DN p),[(2,.pointer (X ⟨mb,0,Aa⟩)),(3,.pointer (X ⟨xb,0,Aa⟩)),(4,.pointer (X ⟨rb,0,Aa⟩)),(5,.pointer (X ⟨N,0,Aa⟩)),(6,.bool d1),(7,U i),(8,U (cv:H))],wz)) ?_ ?_
   .refine(O 4)<|Zd 28 (fun c1=>?_) fun c1=>?_
    .refine(O 4) ?_;refine HE Z (fun hd=>?_) (fun hd=>?_)
     .have IT:dv=Aj:=by cases dv<;>simp at hd ⊢
      obtain⟨Ao,co,rfl,_,_⟩:=h.slice;refine(O 4∘Zv (Cf Q)) ?_;refine Mi 1 ([x.cells]) Z Z underlying31 Hj Z Bc Z Z Z (by repeat' (first|exact La _|refine KZ.2 ⟨by first|rfl|assumption,?_⟩)) Bc ?_;rintro eb w7 ao G a;have d:=h.ext a;have a1:=S.ext a;refine Ie Z Z underlying31 Hj Z Bc Z Z (a1.x) (d) (Src.Agh (m:=1) underlying31 (Sl.Agf G G.lt) Z (QC [x]) Bc) CE J ?_;rintro v8 w8 t cb n P;refine(O 1) ?_
      have f:Bp w8 w.heap.size 64 2 v8 (Aim (os++[x])) (DN (os++[x])):=by
       rw[QD,BA];simpa using t
      have D:=(ai.ext a).grown n (MapS.ne d (ai.ext a) Bc);refine(Zt D (hlt:=Bq _)) ?_;rintro w9 E j;refine(O 4∘Lm ((os++[x]),Af,v8,w9)) ?_
      exact⟨Bh,Bh,(a1.grown d n).put j E a4 a3 a8,((Q.ext a).grown n b1).mo j (by simpa using a2.symm),E,Zw P b1 (Q.ext a).lt,Bp.mo f j fun k I=>by
       obtain⟨_,l',K⟩:=f.blkT k I;simpa using K.ne D Bc⟩
     .refine(O 1∘Lm (os,dv,uo,T)) ?_;grind
    .refine(O 6∘Lm (os,dv,uo,T)) ?_;grind
   .rintro⟨p,d1,v1,wz⟩⟨e1,e2,bm,ab,bb,al,V⟩;refine(O 5)<|Zi (fun bj=>?_) fun bj=>?_
    .have af:=bb.ext (Bf.drew wz);have bc:=V.ext (Bf.drew wz);have cm:=bm.x.size
     have cg:Aim p<=3000000:=by
      rw[e1,BA];split<;>simp<;>omega
     refine Lc (fun((v6,T):Ah×Ad)=>(MapS w T mb rb N (.slice (X ⟨b,o,Aa⟩) (Aim l) c)/\Bk T xb 64 x.cells/\Bk T N 33 [v6]/\X xb≠v6.ownBlock/\Bp T w.heap.size 64 2 v6 (Aim (p++[y])) (DN (p++[y])),[(2,.pointer (X ⟨mb,0,Aa⟩)),(3,.pointer (X ⟨xb,0,Aa⟩)),(4,.pointer (X ⟨rb,0,Aa⟩)),(5,.pointer (X ⟨N,0,Aa⟩)),(6,.bool d1),(7,U i)],T)) ?_ ?_
     .obtain⟨Ao,co,rfl,_,_⟩:=V.slice;refine(Yr 11 (fun w'=>MapS w w' mb rb N (.slice (X ⟨b,o,Aa⟩) (Aim l) c)/\Bk w' xb 64 x.cells) ⟨bm.drew,ab.drew⟩) fun g=>(Gv [0,2]∘Yw 3 (he:=by exact fun _ L=>Bo L.1.m)∘Gv [4,5]∘Yw 6 (he:=by exact fun w' L=>Do y.cells (W w' L.1.x)))<|Ye 1 7 ?_ ?_
      .refine(Jo 1 (he:=by exact Bo af)) fun g=>?_;refine Gu 7 1 ([y.cells]) Z Be Z Z underlying31 Hj Z Bc Z Z Z (by repeat' (first|exact La _|refine KZ.2 ⟨by first|rfl|assumption,?_⟩)) Bc ?_;rintro eb w7 ao G a;refine⟨⟨g.1.ext a,g.2.ext a⟩,fun g=>?_⟩;have d:=bc.ext a;refine GW.append 8 0 Z Be Z Z underlying31 Hj Z Bc Z Z (d.more (BD _)) (Src.Agh (m:=1) underlying31 (Sl.Agf G G.lt) Z (QC [y]) Bc) CE J (BD _) ?_;rintro v8 w8 t n P;refine⟨⟨MapS.grown g.1 d n,g.2.grown n al⟩,fun g=>?_⟩;refine(Gv [9]) ?_;have D:=(af.ext a).grown n (MapS.ne d (af.ext a) Bc)
       have f:Bp w8 w.heap.size 64 2 v8 (Aim (p++[y])) (DN (p++[y])):=by
        rw[QD,BA];refine Bp.base (by simpa using t) fun k I=>?_;rcases P with e|e
        .exact(d.lt k (by rw[<-e];exact I)).1
        .rw[e]at I;injection I with I;have:=a.size;have:wz.drew.heap.size=wz.heap.size:=rfl;omega
       refine(Yt 10 D (hlt:=Bq _)) ?_;rintro w9 E j;refine⟨⟨g.1.put j E a4 a3 a8,g.2.mo j (by simpa using a2.symm)⟩,fun g=>?_⟩;refine(Yd∘Lm (v8,w9)) ?_
       exact⟨g.1,g.2,E,Zw P al (ab.drew.ext a).lt,Bp.mo f j fun k I=>by
        obtain⟨_,l',K⟩:=f.blkT k I;simpa using K.ne D Bc⟩
      .refine TC 7 1 ([y.cells]) Z Z Z underlying31 Hj Z Bc Z Z Z (by repeat' (first|exact La _|refine KZ.2 ⟨by first|rfl|assumption,?_⟩)) Bc ?_;rintro eb w7 ao G a;refine⟨⟨g.1.ext a,g.2.ext a⟩,fun g=>?_⟩;refine(Yo 1 (he:=by exact Bo (af.ext a))) fun g=>?_;have d:=bc.ext a;refine GW.append 8 0 Z Be Z Z underlying31 Hj Z Bc Z Z (d.more (BD _)) (Src.Agh (m:=1) underlying31 (Sl.Agf G G.lt) Z (QC [y]) Bc) CE J (BD _) ?_;rintro v8 w8 t n P;refine⟨⟨MapS.grown g.1 d n,g.2.grown n al⟩,fun g=>?_⟩;refine(Gv [9]) ?_;have D:=(af.ext a).grown n (MapS.ne d (af.ext a) Bc)
       have f:Bp w8 w.heap.size 64 2 v8 (Aim (p++[y])) (DN (p++[y])):=by
        rw[QD,BA];refine Bp.base (by simpa using t) fun k I=>?_;rcases P with e|e
        .exact(d.lt k (by rw[<-e];exact I)).1
        .rw[e]at I;injection I with I;have:=a.size;have:wz.drew.heap.size=wz.heap.size:=rfl;omega
       refine(Yt 10 D (hlt:=Bq _)) ?_;rintro w9 E j;refine⟨⟨g.1.put j E a4 a3 a8,g.2.mo j (by simpa using a2.symm)⟩,fun g=>?_⟩;refine(Yd∘Lm (v8,w9)) ?_
       exact⟨g.1,g.2,E,Zw P al (ab.drew.ext a).lt,Bp.mo f j fun k I=>by
        obtain⟨_,l',K⟩:=f.blkT k I;simpa using K.ne D Bc⟩
     .rintro⟨v6,T⟩⟨S,Q,ai,b0,h⟩
      have e3:ET x (l.take (i+1))=(p++[y],d1):=by
       rw[aj,GL,b3,Ai bj,<-e1,<-e2]
      refine(O 6)<|Lb ((i+1),d1,v6,T) ?_;dsimp only;rw[e3];exact⟨q,Z,S,Q,ai,b0,h⟩
    .have e3:ET x (l.take (i+1))=(p,d1):=by
      rw[aj,GL,b3,Ag bj,List.append_nil,<-e1,<-e2]
     refine(O 7)<|Lb ((i+1),d1,v1,wz) ?_;dsimp only;rw[e3];exact⟨q,Z,bm,ab,bb,al,V⟩
  .obtain rfl:i=Aim l:=J;rw[DA (Bq _)]at B;have hx:=hM.x;refine(O 3)<|Ld (fun((v6,T):Ah×Ad)=>(MapS w T mb rb N (.slice A (Aim l) c)/\Bk T N 33 [v6]/\Bp T w.heap.size 64 2 v6 (Aim (De l x)) (DN (De l x)),[(2,.pointer (X ⟨mb,0,Aa⟩)),(3,.pointer (X ⟨xb,0,Aa⟩)),(4,.pointer (X ⟨rb,0,Aa⟩)),(5,.pointer (X ⟨N,0,Aa⟩))],T)) ?_ ?_
   .refine(O 4) ?_;refine HE Z (fun bi=>?_) (fun bi=>?_)
    .have IT:(ET x l).2=Aj:=by
      have e:dv=(ET x l).2:=by rw[a0,DA (Bq _)]
      rw[<-e];cases dv<;>simp at bi ⊢
     have bh:De l x=(ET x l).1++[x]:=by
      unfold De;rw[IT];rfl
     have a7:Aim (ET x l).1<=2000000:=by
      have:=oN x l;omega
     generalize(ET x l).1=os at B bh a7;obtain⟨Ao,co,rfl,_,_⟩:=B.slice;refine(O 3∘Zv (Cf bl)) ?_;refine Mi 1 ([x.cells]) Z Z underlying31 Hj Z Bc Z Z Z (by repeat' (first|exact La _|refine KZ.2 ⟨by first|rfl|assumption,?_⟩)) Bc ?_;rintro eb w7 ao G a;have d:=B.ext a;have a1:=hM.ext a;refine Ie Z Z underlying31 Hj Z Bc Z Z (a1.x) (d) (Src.Agh (m:=1) underlying31 (Sl.Agf G G.lt) Z (QC [x]) Bc) CE J ?_;rintro v8 w8 t cb n P;refine(O 1) ?_
     have f:Bp w8 w.heap.size 64 2 v8 (Aim (os++[x])) (DN (os++[x])):=by
      rw[QD,BA];simpa using t
     have D:=(ho.ext a).grown n (MapS.ne d (ho.ext a) Bc);refine(Zt D (hlt:=Bq _)) ?_;rintro w9 E j;refine(O 1∘Lm (v8,w9)) ?_;rw[bh]
     exact⟨(a1.grown d n).put j E a4 a3 a8,E,Bp.mo f j fun k I=>by
      obtain⟨_,l',K⟩:=f.blkT k I;simpa using K.ne D Bc⟩
    .have IT:(ET x l).2=Af:=by
      have e:dv=(ET x l).2:=by rw[a0,DA (Bq _)]
      rw[<-e];cases dv<;>simp at bi ⊢
     have bh:De l x=(ET x l).1:=by
      unfold De;rw[IT];rfl
     refine(O 1∘Lm (uo,wr)) ?_;grind
   .rintro⟨v6,T⟩⟨S,ai,h⟩;refine(O 2∘Zv (Cf ai)∘Zs S.r (hlt:=Bq _)) ?_;rintro w8 ce b2;refine(O 1∘Kn ce) ?_
    exact⟨v6,Z,Bp.mo h b2 fun k I=>by
     obtain⟨_,l',K⟩:=h.blkT k I;simpa using K.ne S.r Bc,Bv S.x b2 S.x.size Bh⟩
end
namespace Wal
open Rec Pth Dsk
def chs:Y->Ae By->Ae Ch
 |_,[]=>[]
 |i,t::T=>.write i t::chs (i+1) T
def Uh:Y->Ae By->By->By
 |_,[],s=>s
 |i,t::T,s=>Uh (i+1) T ((Ch.write i t).ap s)
def Xz:∀(T:Ae By) (i:Y),Aim (chs i T)=Aim T
 |[],_=>rfl
 |t::T,i=>by simp[chs,Xz T]
def UX{s t:By}{i:Y}(ht:Aim t=512)(hm:Aim s%512=0):Aim ((Ch.write i t).ap s)%512=0:=by
 rw[Pg ht hm];omega
def dE:∀(T:Ae By) (i:Y) (s:By),(∀t∈T,Aim t=512)->Aim s%512=0->Aim (Uh i T s)=if T=[]then Aim s else max (Aim s) ((i+Aim T)*512)
 |[],i,s,_,_=>rfl
 |t::T,i,s,hT,hm=>by
  have ht:=hT t Bl;rw[Uh,dE T (i+1) _ (fun x hx=>hT x Bh) (UX ht hm),Pg ht hm,Ag (List.cons_ne_nil _ _),Cv];grind
def Aeq{g a:Y}{l:Ae Nt}(d:g<=4611686018427387904)(hl:Good l)(e:a+Aim l<=2147483647)(h2:Aim l<=100):∀k,k<Aim l+1->(CB ((txs g a l).getD k [])).1.gen=(g:H):=by
 intro k f;by_cases q:k<Aim l
 .rw[oD g a l q,(aa d l a hl e k q).eq]
 .obtain rfl:k=Aim l:=J;rw[oC,(ac (k:=3) Bl d e Bl).eq]
def jJ{g:Y}:∀(ls:Ae (Ae Nt)) (i:Y),i+ED ls<=20->g<=4611686018427387904->Wo ls->∀k,k<ED ls->(CB ((DO g i ls).getD k [])).1.gen=(g:H)
 |[],i,_,_,_,k,hk=>by simp[ED]at hk
 |l::ls,i,hi,hg,hl,k,hk=>by
  rw[PH]at hi hk;have h1:=hl l Bl;by_cases q:k<Aim l+1
  .have e:(DO g i (l::ls)).getD k []=(txs g i l).getD k []:=by
    rw[DO];simp only[BX];rw[FA (by rw[Ji];omega)]
   rw[e];exact Aeq hg h1.1 J J k q
  .have e:(DO g i (l::ls)).getD k []=(DO g (i+Aim l+1) ls).getD (k-(Aim l+1)) []:=by
    rw[DO];simp only[BX];rw[Hl (by rw[Ji];omega),Ji]
   rw[e];exact jJ ls _ J hg (fun x a=>hl x Bh) _ J
def zI{gen:H}{rd:Y->By}{m f i:Y}{op:Ae Nt}{out:Ae (Ae Nt)}{b:Y}(hi:m<=i):CZ gen rd m f i op out b=(out,b):=by
 cases f with
 |zero=>rfl
 |succ f=>rw[CZ,Ag J]
def okT(a:Y)(l:Ae Nt):Prop:=0<Aim l/\Aim l+a<20/\∀n∈l,n.kind=1/\Dq n.mem
instance(a:Y)(l:Ae Nt):Decidable (okT a l):=by unfold okT;infer_instance
end Wal
namespace Cat
open Pth Rec Srt Dsk Wal
structure Rest(D:Dv):Prop where
 ok:D.Ok
 dead:D.dead=Aj
 pend:D.pend=[]
 kept:D.kept=D.now
def Km(l:Ae M):Prop:=∀m∈l,m.sum<=4294967295
def Aga:(CB (EN 512)).2≠0:=by
 unfold CB;rw[Ag]
 .simp
 .rintro⟨_,_,h⟩;have a:(DE (EN 512)).kind=0:=rfl;rw[a]at h;unfold EH at h;rw[Ai (by unfold Cn;omega)]at h;grind
end Cat
section
open Pth Rec Srt Dsk Wal Cat
abbrev BR:=Bg
def GB(cs:Ae Ch)(s:BR):BR:=cs.foldl (fun a c=>c.ap a) s
def qS(a b:Ae Ch)(s:BR):GB (a++b) s=GB b (GB a s):=Qd ..
def dF:∀(T:Ae BR) (i:Y) (s:BR),GB (chs i T) s=Uh i T s
 |[],_,_=>rfl
 |t::T,i,s=>by
  show GB (chs (i+1) T) _=_;rw[dF T (i+1)];rfl
structure Bt(D:Dv)(cs:Ae Ch)(n:Y)(r:Dv×Y):Prop where
 cap:r.1.cap=D.cap
 calls:r.1.calls<=D.calls+n
 at_:r.1.at_<=D.at_
 keep:Aim r.1.keep<=Aim D.keep
 out:(r.2=0/\r.1.dead=Aj/\r.1.kept=D.kept/\r.1.now=GB cs D.now/\r.1.pend=D.pend++cs/\r.1.keep=D.keep)∨
  (r.2=190/\D.at_≠0/\r.1.dead=Af/\r.1.pend=[]/\r.1.kept=r.1.now/\r.1.at_=0/\∃j,r.1.now=Er (D.pend++cs.take j) D.keep D.kept)
def Bt.nil{D:Dv}(h:D.dead=Aj):Bt D [] 0 (D,0):=⟨Z,Bq _,Bq _,Bq _,.inl ⟨Z,h,Z,Z,(List.append_nil _).symm,Z⟩⟩
def Bt.Agi{D:Dv}(h:D.dead=Aj)(c:Ch):Bt D [c] 1 (D.Agi (X c)):=by
 by_cases a:D.at_=1
 .rw[UC (by exact a)];exact⟨Z,Qk _,BD _,BD _,.inr ⟨Z,J,Z,Z,Z,Z,1,Z⟩⟩
 .rw[UD (by exact a)];exact⟨Z,Bq _,Nat.sub_le _ _,Bq _,.inl ⟨Z,h,Z,Z,Z,Z⟩⟩
def Bt.read{D:Dv}(h:D.dead=Aj){i:H}(h0:0<=i)(h1:i<((Aim D.now/512:Y):H)):Bt D [] 1 ((D.read i).1,0)/\(D.read i).2=(Cb D.now i.toNat,0):=by
 have e:D.read i=(DI D 1,Cb D.now i.toNat,0):=by
  unfold Dv.read;rw[Ag Bh,Ag J];rfl
 rw[e];exact⟨⟨Z,Bq _,Bq _,Bq _,.inl ⟨Z,h,Z,Z,(List.append_nil _).symm,Z⟩⟩,Z⟩
def Bt.trans{D:Dv}{d a:Ae Ch}{n n2:Y}{r r2:Dv×Y}(h:Bt D d n r)(h0:r.2=0)(h2:Bt r.1 a n2 r2):Bt D (d++a) (n+n2) r2:=by
 rcases h.out with⟨_,v,o,t,q,m⟩|⟨w,_⟩
 .refine⟨h2.cap.trans h.cap,by have:=h.calls;have:=h2.calls;omega,BF h2.at_ h.at_,BF h2.keep h.keep,?_⟩;rcases h2.out with⟨i,l,g,f,k,e⟩|⟨i,l,g,f,k,e,j,p⟩
  .exact .inl ⟨i,l,g.trans o,by rw[f,t,qS],Bh,e.trans m⟩
  .have:=h.at_;refine .inr ⟨i,J,g,f,k,e,Aim d+j,?_⟩;rw[p,q,m,o,Cq,List.take_length_add_append]
 .omega
def Bt.stop{D:Dv}{d:Ae Ch}{n:Y}{r:Dv×Y}(h:Bt D d n r)(h0:r.2≠0)(a:Ae Ch){n2:Y}(e:n<=n2):Bt D (d++a) n2 r:=by
 refine⟨h.cap,BF h.calls (Nat.add_le_add_left e _),h.at_,h.keep,?_⟩;rcases h.out with⟨p,_⟩|⟨m,l,k,i,g,f,j,o⟩
 .omega
 .refine .inr ⟨m,l,k,i,g,f,min j (Aim d),?_⟩;grind
def Bt.more{D:Dv}{cs:Ae Ch}{n n2:Y}{r:Dv×Y}(h:Bt D cs n r)(hn:n<=n2):Bt D cs n2 r:=⟨h.cap,BF h.calls (Nat.add_le_add_left hn _),h.at_,h.keep,h.out⟩
def Bt.write{D:Dv}(h:D.dead=Aj){i:Y}{t:BR}(hi:i<D.cap)(ht:Aim t=512):Bt D [.write i t] 1 (D.write i t):=by
 have e:D.write (i:H) t=D.Agi (X (.write i t)):=by
  unfold Dv.write;rw[Ag Bh,Ag J,Ag J];rfl
 rw[e];exact Bt.Agi h _
def Bt.live{D:Dv}{d:Ae Ch}{n:Y}{r:Dv×Y}(h:Bt D d n r)(h0:r.2=0):r.1.dead=Aj:=by
 rcases h.out with⟨_,a,_⟩|⟨a,_⟩
 .omega
 .omega
def Bt.writes:∀(T:Ae BR) {D:Dv} (i:Y),D.dead=Aj->(∀t∈T,Aim t=512)->i+Aim T<=D.cap->Bt D (chs i T) (Aim T) (writes D i T)
 |[],D,i,h,_,_=>Bt.nil h
 |t::T,D,i,h,hT,hi=>by
  rw[Cv]at hi;have b:=Bt.write h (i:=i) (t:=t) J (hT t (Fa ..));rw[Ts];show Bt D ([.write i t]++chs (i+1) T) (Aim T+1) _;split
  .rename_i q;exact(b.trans q (Bt.writes T (i+1) (b.live q) (fun x hx=>hT x (El _ hx)) (by rw[b.cap];omega))).more (OA (RU ..))
  .rename_i q;exact b.stop q _ J
structure Sy(D:Dv)(cs:Ae Ch)(n:Y)(r:Dv×Y):Prop where
 cap:r.1.cap=D.cap
 calls:r.1.calls<=D.calls+n
 at_:r.1.at_<=D.at_
 keep:Aim r.1.keep<=Aim D.keep
 pend:r.1.pend=[]
 kept:r.1.kept=r.1.now
 out:(r.2=0/\r.1.dead=Aj/\r.1.now=GB cs D.now)∨(r.2=190/\D.at_≠0/\r.1.dead=Af/\r.1.at_=0/\∃j,r.1.now=Er (cs.take j) D.keep D.now)
def Sy.Ahq{D:Dv}(h:Cat.Rest D){d:Ae Ch}{n:Y}{r:Dv×Y}(b:Bt D d n r)(h0:r.2≠0):Sy D d (n+1) r:=by
 rcases b.out with⟨a,_⟩|⟨m,l,k,i,g,f,j,e⟩
 .omega
 .exact⟨b.cap,by have:=b.calls;omega,b.at_,b.keep,i,g,.inr ⟨m,l,k,f,j,by rw[e,h.pend,h.kept,Ev]⟩⟩
def Sy.of_ok{D:Dv}(h:Cat.Rest D){d:Ae Ch}{n:Y}{E:Dv}{e:Y}(b:Bt D d n (E,e))(h0:e=0):Sy D d (n+1) E.sync:=by
 subst h0;rcases b.out with⟨q,p,i,o,g,f⟩|⟨a,_⟩
 .have k:=b.calls;have m:=b.at_;have l:=b.keep
  have e:E.sync=E.Agi Aa:=by
   unfold Dv.sync;rw[Ag Bh]
  rw[e];by_cases j:E.at_=1
  .rw[UC (by exact j)];refine⟨b.cap,TW k,BD _,BD _,Z,Z,.inr ⟨Z,?_,Z,Z,Aim d,?_⟩⟩
   .grind
   .show Er E.pend E.keep E.kept=_;have i:E.kept=D.kept:=i;have g:E.pend=D.pend++d:=g;have f:E.keep=D.keep:=f;rw[i,g,f,h.pend,h.kept,Ev,DY]
  .rw[UD (by exact j)];exact⟨b.cap,Nat.succ_le_succ k,BF (Nat.sub_le _ _) m,l,Z,Z,.inl ⟨Z,p,o⟩⟩
 .omega
def Sy.of{D:Dv}(h:Cat.Rest D){a:Ae Ch}{n:Y}{r:Dv×Y}(b:Bt D a n r):Sy D a (n+1) (if r.2=0 then r.1.sync else r):=by
 split
 .rename_i q;exact Sy.of_ok h (e:=r.2) b q
 .rename_i q;exact Sy.Ahq h b q
def kZ{cap:Y}:∀(cs:Ae Ch) (s:BR),(∀c∈cs,c.ok cap)->Aim s<=512*cap->Aim s%512=0->Aim (GB cs s)<=512*cap/\Aim (GB cs s)%512=0
 |[],_,_,h1,h2=>⟨h1,h2⟩
 |c::cs,s,h,h1,h2=>kZ cs _ (fun d hd=>h d (El _ hd)) (Ui (h c (Fa ..)) h1) (Xh (h c (Fa ..)) h2)
def Sy.ok{D:Dv}(h:Cat.Rest D){d:Ae Ch}{n:Y}{r:Dv×Y}(b:Sy D d n r)(f:∀c∈d,c.ok D.cap):r.1.Ok:=by
 have q:Aim r.1.now<=512*D.cap/\Aim r.1.now%512=0:=by
  rcases b.out with⟨_,_,e⟩|⟨_,_,_,_,j,e⟩
  .rw[e];exact kZ d _ f h.ok.now h.ok.nowM
  .rw[e];exact Yi _ _ _ (fun c a=>f c (HH a)) h.ok.now h.ok.nowM
 refine⟨by rw[b.cap];exact h.ok.cap,?_,?_,?_,q.2,fun c a=>by rw[b.pend]at a;grind⟩
 .rw[b.kept,b.cap];exact q.1
 .rw[b.cap];exact q.1
 .rw[b.kept];omega
def Sy.live{D:Dv}(h:Cat.Rest D){d:Ae Ch}{n:Y}{r:Dv×Y}(b:Sy D d n r)(f:∀c∈d,c.ok D.cap)(h0:r.2=0):Cat.Rest r.1/\r.1.now=GB d D.now:=by
 rcases b.out with⟨_,a,e⟩|⟨a,_⟩
 .exact⟨⟨b.ok h f,a,b.pend,b.kept⟩,e⟩
 .omega
def Sy.sm{D:Dv}{cs:Ae Ch}{n k:Y}{r:Dv×Y}(b:Sy D cs n r)(h:Sm D k):Sm r.1 (k+n):=
 ⟨by have:=b.calls;have:=h.calls;omega,by rw[b.pend];simp,BF b.at_ h.at_,BF b.keep h.keep⟩
structure Upn(n:Y)(P:Y->BR->Prop)(s s':BR):Prop where
 le:Aim s<=Aim s'∨n*512<=Aim s'
 sec:∀j,j<Aim s'/512->(j<Aim s/512/\Cb s' j=Cb s j)∨(Aim s/512<=j/\Cb s' j=EN 512)∨P j (Cb s' j)
def Upn.refl(n:Y)(P:Y->BR->Prop)(s:BR):Upn n P s s:=⟨.inl (Bq _),fun j hj=>.inl ⟨hj,Z⟩⟩
def Agb{a b:Y}(h:(b+1)*512<=a):Cb (EN a) b=EN 512:=by
 unfold Cb EN;grind
def Abq{s z:BR}{j:Y}(h:(j+1)*512<=Aim s):Cb (s++z) j=Cb s j:=by
 have d:j*512<=Aim s:=BF (OF 512 (Qk j)) h;have a:512<=Aim (s.drop (j*512)):=by rw[CK];exact Nat.le_sub_of_add_le J
 unfold Cb;grind
def Abr{s z:BR}{j:Y}(hm:Aim s%512=0)(h:Aim s<=j*512):Cb (s++z) j=Cb z (j-Aim s/512):=by
 unfold Cb;rw[List.drop_append,KX h,Ev,show j*512-Aim s=(j-Aim s/512)*512 by omega]
def oW{s t:BR}{i j:Y}(hm:Aim s%512=0)(ht:Aim t=512)(h:j<Aim ((Ch.write i t).ap s)/512):
 Cb ((Ch.write i t).ap s) j=if j=i then t else if j<Aim s/512 then Cb s j else EN 512:=by
 have g:=Pg (i:=i) ht hm;by_cases a:j=i∨j<Aim s/512
 .have:=Abu (i:=i) hm ht a;rw[show Cb ((Ch.write i t).ap s) j=sec ((Ch.write i t).ap s) j from Z,this];split
  .rfl
  .rename_i q;rw[Ai (a.resolve_left q)];rfl
 .rw[Ag (fun q=>a (.inl q)),Ag (fun q=>a (.inr q))];have d:j<i:=J;rw[Xi]
  have e:Aim ((s++EN ((i+1)*512-Aim s)).take (i*512))=i*512:=by
   rw[BY,BA,PO];omega
  rw[Cq,Abq J]
  have f:Cb ((s++EN ((i+1)*512-Aim s)).take (i*512)) j=Cb (s++EN ((i+1)*512-Aim s)) j:=by
   unfold Cb;rw[Wu,WL,Hq J]
  rw[f,Abr hm J,Agb J]
def Wr(cs:Ae Ch):Prop:=∀c∈cs,∃j t,c=.write j t/\Aim t=512
def CX(cs:Ae Ch)(j:Y)(t:BR):Prop:=Ch.write j t∈cs
def bG{s t:BR}{i:Y}(hm:Aim s%512=0)(ht:Aim t=512)(n:Y):Upn n (CX [.write i t]) s ((Ch.write i t).ap s):=by
 refine⟨.inl (by rw[Pg ht hm];omega),fun j a=>?_⟩;rw[oW hm ht a];by_cases d:j=i
 .subst d;rw[Ai Z];exact .inr (.inr (CG.2 Z))
 .grind
def Upn.trans{n:Y}{P:Y->BR->Prop}{a b c:BR}(h1:Upn n P a b)(h2:Upn n P b c)(hl:Aim a<=Aim b):Upn n P a c:=by
 refine⟨?_,fun j h=>?_⟩
 .rcases h2.le with q|q
  .omega
  .omega
 .rcases h2.sec j h with⟨d,g⟩|⟨d,g⟩|q
  .rcases h1.sec j d with⟨f,e⟩|⟨f,e⟩|r
   .grind
   .grind
   .grind
  .grind
  .grind
def Upn.imp{n:Y}{P Q:Y->BR->Prop}{a b:BR}(h:Upn n P a b)(hi:∀j t,P j t->Q j t):Upn n Q a b:=
 ⟨h.le,fun j hj=>(h.sec j hj).imp id (Or.imp id (hi j _))⟩
def Wr.cons{c:Ch}{a:Ae Ch}(h:Wr (c::a)):Wr a:=fun d e=>h d (El _ e)
def Yj(n:Y):∀(cs:Ae Ch) (bs:Ae Aw) (s:BR),Wr cs->Aim s%512=0->Upn n (CX cs) s (Er cs bs s)/\Aim s<=Aim (Er cs bs s)
 |[],_,s,_,_=>⟨Upn.refl _ _ _,Bq _⟩
 |c::cs,[],s,_,_=>⟨Upn.refl _ _ _,Bq _⟩
 |c::cs,b::bs,s,h,hm=>by
  obtain⟨i,t,rfl,ht⟩:=h c (Fa ..);show Upn n _ s (Er cs bs _)/\Aim s<=Aim (Er cs bs _);cases b with
  |false=>
   obtain⟨u,l⟩:=Yj n cs bs s h.cons hm;exact⟨u.imp fun j t q=>El _ q,l⟩
  |true=>
   obtain⟨u,l⟩:=Yj n cs bs ((Ch.write i t).ap s) h.cons (UX ht hm);have hl:Aim s<=Aim ((Ch.write i t).ap s):=by rw[Pg ht hm];exact Nat.le_max_left _ _
   exact⟨((bG hm ht n).imp fun j x q=>by rw[CX,CG]at q;rw[CX,q];simp).trans (u.imp fun j t q=>El _ q) hl,BF hl l⟩
def Xg(n:Y):∀(cs:Ae Ch) (s:BR),Wr cs->Aim s%512=0->Upn n (CX cs) s (GB cs s)/\Aim s<=Aim (GB cs s)
 |[],s,_,_=>⟨Upn.refl _ _ _,Bq _⟩
 |c::cs,s,h,hm=>by
  obtain⟨i,t,rfl,ht⟩:=h c (Fa ..);obtain⟨u,l⟩:=Xg n cs ((Ch.write i t).ap s) h.cons (UX ht hm);have hl:Aim s<=Aim ((Ch.write i t).ap s):=by rw[Pg ht hm];exact Nat.le_max_left _ _
  exact⟨((bG hm ht n).imp fun j x q=>by rw[CX,CG]at q;rw[CX,q];simp).trans (u.imp fun j t q=>El _ q) hl,BF hl l⟩
def dG:∀(cs:Ae Ch) (s:BR),Wr cs->Aim s%512=0->(∀j t t',CX cs j t->CX cs j t'->t=t')->∀j t,CX cs j t->(j+1)*512<=Aim (GB cs s)/\Cb (GB cs s) j=t
 |[],s,_,_,_,j,t,h=>by cases h
 |c::cs,s,h,hm,hu,j,t,hj=>by
  obtain⟨i,x,rfl,hx⟩:=h c (Fa ..);have hm2:=UX (i:=i) hx hm;have hu2:∀j t t',CX cs j t->CX cs j t'->t=t':=fun j t t' a b=>hu j t t' (El _ a) (El _ b);show(j+1)*512<=Aim (GB cs ((Ch.write i x).ap s))/\Cb (GB cs ((Ch.write i x).ap s)) j=t;by_cases f:∃t',CX cs j t'
  .obtain⟨t',d⟩:=f;have e:=hu j t t' hj (El _ d);rw[e];exact dG cs _ h.cons hm2 hu2 j t' d
  .rcases List.mem_cons.1 hj with q|q
   .injection q with g k;subst g k;have n:=Pg (i:=j) hx hm;obtain⟨u,l⟩:=Xg 0 cs _ h.cons hm2;have m:(j+1)*512<=Aim (GB cs ((Ch.write j t).ap s)):=BF J l;refine⟨m,?_⟩;rcases u.sec j J with⟨g,k⟩|⟨g,_⟩|q
    .rw[k,oW hm hx g,Ai Z]
    .omega
    .grind
   .exact AK ⟨t,q⟩ f
def LA:∀(T:Ae BR) (i j:Y) (t:BR),CX (chs i T) j t↔i<=j/\j<i+Aim T/\T.getD (j-i) []=t
 |[],i,j,t=>⟨fun h=>(by cases h),fun⟨a,b,_⟩=>by grind⟩
 |x::T,i,j,t=>by
  have ih:=LA T (i+1) j t;rw[Cv];constructor
  .intro h;rcases List.mem_cons.1 h with q|q
   .grind
   .obtain⟨a,b,c⟩:=ih.1 q;grind
  .rintro⟨a,b,c⟩;by_cases q:j=i
   .subst q;rw[EP]at c;exact List.mem_cons.2 (.inl Bh)
   .refine El _ (ih.2 ⟨J,J,?_⟩);grind
def Rx:∀(T:Ae BR) (i:Y),(∀t∈T,Aim t=512)->Wr (chs i T)
 |[],_,_,c,h=>by cases h
 |x::T,i,hT,c,h=>by
  rcases List.mem_cons.1 h with q|q
  .grind
  .exact Rx T (i+1) (fun t ht=>hT t (El _ ht)) c q
def Us{T:Ae BR}{i cap:Y}(f:∀t∈T,Aim t=512)(hi:i+Aim T<=cap):∀c∈chs i T,c.ok cap:=fun c d=>by
 obtain⟨j,t,rfl,e⟩:=Rx T i f c d;obtain⟨a,b,_⟩:=(LA T i j t).1 d;exact⟨J,e⟩
def XA{T:Ae BR}{i:Y}:∀j t t',CX (chs i T) j t->CX (chs i T) j t'->t=t':=fun j t t' a b=>((LA T i j t).1 a).2.2.symm.trans ((LA T i j t').1 b).2.2
def Wr.take{a:Ae Ch}(h:Wr a)(j:Y):Wr (a.take j):=fun c d=>h c (HH d)
def vg{cs:Ae Ch}{k:Y}(j:Y)(t:BR)(h:CX (cs.take k) j t):CX cs j t:=HH h
def Sy.up{D:Dv}(h:Cat.Rest D){a:Ae Ch}{n:Y}{r:Dv×Y}(b:Sy D a n r)(d:Wr a)(m:Y):Upn m (CX a) D.now r.1.now/\Aim D.now<=Aim r.1.now:=by
 rcases b.out with⟨_,_,e⟩|⟨_,_,_,_,j,e⟩
 .rw[e];exact Xg m a _ d h.ok.nowM
 .rw[e];obtain⟨u,l⟩:=Yj m (a.take j) D.keep D.now (d.take j) h.ok.nowM;exact⟨u.imp vg,l⟩
def Sy.has{D:Dv}(h:Cat.Rest D){d:Ae Ch}{n:Y}{r:Dv×Y}(b:Sy D d n r)(f:Wr d)(h0:r.2=0)(g:∀j t t',CX d j t->CX d j t'->t=t'){j:Y}{t:BR}(i:CX d j t):(j+1)*512<=Aim r.1.now/\Cb r.1.now j=t:=by
 rcases b.out with⟨_,_,e⟩|⟨a,_⟩
 .rw[e];exact dG d _ f h.ok.nowM g j t i
 .omega
def Kh(g:Y)(t:BR):Prop:=(CB t).2≠0∨(CB t).1.gen<(g:H)
def jU(g:Y):Kh g (EN 512):=.inl Aga
def Kh.mono{g h:Y}{t:BR}(q:Kh g t)(hg:g<=h):Kh h t:=q.imp id fun q=>by omega
section
variable{n g h:Y}{P:Y->BR->Prop}{s s':BR}{j:Y}
def Upn.keep(u:Upn n P s s')(h1:j<Aim s/512)(h2:j<n)(d:∀t,¬P j t):j<Aim s'/512/\Cb s' j=Cb s j:=by
 have a:j<Aim s'/512:=by rcases u.le with q|q<;>omega
 refine⟨a,?_⟩;rcases u.sec j a with q|⟨q,_⟩|q
 .grind
 .omega
 .grind
def Upn.low(u:Upn n P s s')(h1:j<Aim s/512->Kh g (Cb s j))(d:∀t,¬P j t)(a:j<Aim s'/512):Kh g (Cb s' j):=by
 rcases u.sec j a with q|⟨_,q⟩|q
 .grind
 .rw[q];exact jU g
 .grind
end
structure Slot(s:BR)(cap g:Y)(l:Ae M):Prop where
 has:(g%2*5+5)*512<=Aim s
 sec:∀i,i<5->Cb s (g%2*5+i)=JS g (Ci l) i
 gen:g<=4611686018427387904
 chk:OkC l cap
 sums:Km l
def SO{l:Ae M}{c:H}(h:OkC l c){g:Y}(d:g<=4611686018427387904):OkE g l:=by
 have e:=h.ext.room;refine⟨J,J,h.len,h.may,h.rises,⟨Bl,fun x a=>?_,h.ext.far⟩⟩;have:=h.ext.fit x a;unfold Ht at this ⊢;omega
def Slot.okE{s:BR}{cap g:Y}{l:Ae M}(h:Slot s cap g l):OkE g l:=SO h.chk h.gen
def Slot.Aie{D:Dv}{g:Y}{l:Ae M}(h:Slot D.now D.cap g l):FL D (g%2)=X ((g:H),l):=by
 have a:CT D (g%2)=EK g (Ci l):=by
  unfold CT EK;refine Ju fun i e=>?_;exact h.sec i (CQ.1 e)
 have d:=sS h.sums (Sw h.okE);have f:=h.has;have k:Right D (g%2):=⟨by unfold Fv;omega,by rw[a,d],Bh,by rw[a,d];exact h.chk⟩;unfold FL;grind
def RY(s:BR)(g:Y):Prop:=∀i,i<5->(1-g%2)*5+i<Aim s/512->Kh g (Cb s ((1-g%2)*5+i))
structure Clean(s:BR)(g:Y)(ls:Ae (Ae Nt))(nx:Y):Prop where
 good:Wo ls
 tot:ED ls=nx
 le:nx<=20
 has:nx=0∨(10+nx)*512<=Aim s
 sec:∀k,k<nx->Cb s (10+k)=(DO g 0 ls).getD k []
 low:∀k,nx<=k->k<20->10+k<Aim s/512->Kh g (Cb s (10+k))
def zM{gen:H}{rd:Y->BR}{m f i:Y}{op:Ae Nt}{out:Ae (Ae Nt)}{b:Y}(h:(CB (rd i)).2≠0∨(CB (rd i)).1.gen≠gen):CZ gen rd m f i op out b=(out,b):=by
 cases f with
 |zero=>rfl
 |succ f=>
  rw[CZ];grind
def Kh.stop{g:Y}{t:BR}(h:Kh g t):(CB t).2≠0∨(CB t).1.gen≠(g:H):=h.imp id fun q=>by omega
def Clean.front{s:BR}{g nx:Y}{a:Ae (Ae Nt)}(h:Clean s g a nx)(o:g<=4611686018427387904):Wal.replay s g=CZ g (fun i=>Wal.sec s (10+i)) (Hf s) (21-nx) nx [] a nx/\nx<=Hf s:=by
 have l:nx<=Hf s:=by
  have r:=h.le;unfold Hf;rcases h.has with q|q<;>omega
 have d:Hf s<=20:=Nat.min_le_left _ _;unfold Wal.replay;have f:=mc (gen:=g) (rd:=fun i=>Wal.sec s (10+i)) (m:=Hf s) o d a (21-nx) 0 [] 0 h.good (fun k p=>by rw[FW];exact h.sec k (by rw[<-h.tot];omega)) (by rw[h.tot,FW];omega);rw[h.tot,show 21-nx+nx=21 by omega,FW,Ev]at f;refine⟨f.trans ?_,l⟩;by_cases e:a=[]
 .subst e;rw[Ai Z,<-h.tot];rfl
 .grind
def Clean.replay{s:BR}{g nx:Y}{a:Ae (Ae Nt)}(h:Clean s g a nx)(d:g<=4611686018427387904):Wal.replay s g=(a,nx):=by
 rw[(h.front d).1];by_cases q:nx<Hf s
 .have e:=h.low nx (Bq _) (by unfold Hf at q;omega) (by unfold Hf at q;omega);exact zM e.stop
 .exact zI J
end
section
open Pth Rec Srt Dsk Wal Cat Tar
structure At(s:BR)(a:Y)(t:BR):Prop where
 whole:Aim t%512=0
 pos:0<Aim t/512
 has:(a+Aim t/512)*512<=Aim s
 sec:∀k,k<Aim t/512->Cb s (a+k)=Cb t k
def Adz{s t:BR}{a b:Y}(n:Y):(a+n)*512<=Aim s->(b+n)*512<=Aim t->(∀k,k<n->Cb s (a+k)=Cb t (b+k))->(s.drop (a*512)).take (n*512)=(t.drop (b*512)).take (n*512):=by
 induction n with
 |zero=>
  simp
 |succ n ih=>
  intro i f h;have e:(a+n+1)*512<=Aim s:=i;have d:(b+n+1)*512<=Aim t:=f;have o:=ay s a n e;have j:=ay t b n d;grind
def At.now{s t:BR}{a:Y}(h:At s a t):(s.drop (a*512)).take (Aim t)=t:=by
 have f:=h.whole;have e:=Adz (s:=s) (t:=t) (a:=a) (b:=0) (Aim t/512) h.has J (fun k d=>by rw[FW];exact h.sec k d);grind
def At.of{s t:BR}{a:Y}(d:Aim t%512=0)(h0:0<Aim t/512)(f:(a+Aim t/512)*512<=Aim s)(h:(s.drop (a*512)).take (Aim t)=t):At s a t:=by
 refine⟨d,h0,f,fun k i=>?_⟩;have e:Cb t k=(((s.drop (a*512)).take (Aim t)).drop (k*512)).take 512:=by rw[h];rfl
 rw[e,Wu,WL,Ge,Hq J,show a*512+k*512=(a+k)*512 by omega];rfl
def At.up{n a:Y}{P:Y->BR->Prop}{s s' t:BR}(h:At s a t)(u:Upn n P s s')(j:a+Aim t/512<=n)(f:∀k,k<Aim t/512->∀y,¬P (a+k) y):At s' a t:=by
 have o:=h.has;have i:=h.pos;have d:∀k,k<Aim t/512->a+k<Aim s'/512/\Cb s' (a+k)=Cb s (a+k):=fun k e=>u.keep J J (f k e);have:=(d (Aim t/512-1) J).1;exact⟨h.whole,i,J,fun k e=>(d k e).2.trans (h.sec k e)⟩
def Stands.at_{D:Dv}{m:M}{x:En}(h:Stands D m x):At D.now m.start.toNat (Cj x):=by
 have a:=JN h.fits;have f:=h.len;have d:=h.now;rw[f]at d;have e:=Ar DW d;rw[BY,CK]at e;exact At.of a.1 J J d
def Stands.of{D:Dv}{m:M}{x:En}(hf:Fits x)(h1:0<=m.start)(a:m.sectors=Ca x)(e:m.size=(Aim x.data:H))(i:m.sum=Fc x.data)(h:At D.now m.start.toNat (Cj x)):Stands D m x:=by
 have f:=JN hf;have d:m.sectors.toNat*512=Aim (Cj x):=by rw[a];unfold Ca;omega
 refine⟨hf,h1,by rw[a];unfold Ca;omega,e,i,d,?_⟩;rw[d];exact h.now
def Stands.Agy{D:Dv}{m:M}{x:En}(h:Stands D m x):m.sectors=Ca x:=by
 have d:=h.len;have a:=h.sectors;unfold Ca;omega
def Wa(P:Y->BR->Prop)(x:Xt):Prop:=∀k:Y,x.1<=(k:H)->(k:H)<x.1+x.2->∀y,¬P k y
def Stands.up{D D':Dv}{m:M}{x:En}{n:Y}{P:Y->BR->Prop}(h:Stands D m x)(u:Upn n P D.now D'.now)(d:m.start+m.sectors<=n)(a:Wa P (m.start,m.sectors)):Stands D' m x:=by
 have e:=h.Agy;have i:=h.start;unfold Ca at e;refine Stands.of h.fits h.start h.Agy h.size h.sum (h.at_.up u J fun k f y=>a _ ?_ ?_ y)
 .omega
 .omega
inductive Fil(D:Dv):Ae M->Ae En->Prop
 |nil:Fil D [] []
 |cons {m:M} {x:En} {ms:Ae M} {xs:Ae En}:m.path=x.path->Stands D m x->Fil D ms xs->Fil D (m::ms) (x::xs)
section
variable{D D':Dv}{ms:Ae M}{fs:Ae En}
def Fil.imp(h:Fil D ms fs)(hi:∀m∈ms,∀x,Stands D m x->Stands D' m x):Fil D' ms fs:=by
 induction h with
 |nil=>exact .nil
 |cons h1 h2 _ ih=>exact .cons h1 (hi _ (Fa ..) _ h2) (ih fun m a=>hi m (El _ a))
def Fil.same(h:Fil D ms fs)(e:D'.now=D.now):Fil D' ms fs:=
 h.imp fun m _ x q=>⟨q.fits,q.start,q.sectors,q.size,q.sum,q.len,by rw[e];exact q.now⟩
def Fil.up{n:Y}{P:Y->BR->Prop}(h:Fil D ms fs)(u:Upn n P D.now D'.now)(hn:∀m∈ms,m.start+m.sectors<=n)(hp:∀m∈ms,Wa P (m.start,m.sectors)):Fil D' ms fs:=
 h.imp fun m hm x q=>q.up u (hn m hm) (hp m hm)
def Fil.keys(h:Fil D ms fs):ms.map M.path=fs.map En.path:=by
 induction h with
 |nil=>rfl
 |cons h1 _ _ ih=>grind
def Fil.len(h:Fil D ms fs):Aim ms=Aim fs:=by
 have:=Ar DW h.keys;grind
def Fil.at_(h:Fil D ms fs):∀{i:Y} (hi:i<Aim ms) (hj:i<Aim fs),ms[i].path=fs[i].path/\Stands D ms[i] fs[i]:=by
 induction h with
 |nil=>simp
 |cons h1 h2 _ ih=>
  grind
def Fil.mem(h:Fil D ms fs){m:M}(hm:m∈ms):∃x∈fs,m.path=x.path/\Stands D m x:=by
 induction h with
 |nil=>grind
 |cons h1 h2 _ ih=>
  grind
def sd{α β:Type}{k1:α->BR}{k2:β->BR}{a e:α}{b d:β}(h:k1 a=k2 b)(f:k1 e=k2 d):Ce k1 a e=Ce k2 b d:=by
 unfold Ce;grind
def Fil.ins{m:M}{x:En}(h:Fil D ms fs)(h1:m.path=x.path)(h2:Stands D m x):Fil D (Cc M.path m ms) (Cc En.path x fs):=by
 induction h with
 |nil=>exact .cons h1 h2 .nil
 |cons a1 a2 a3 ih=>
  unfold Cc;rw[sd (k1:=M.path) (k2:=En.path) h1 a1];split
  .exact .cons h1 h2 (.cons a1 a2 a3)
  .split
   .exact .cons h1 h2 a3
   .exact .cons a1 a2 ih
def Fil.del(h:Fil D ms fs)(p:BR):Fil D (ms.filter fun m=>decide (m.path≠p)) (fs.filter fun x=>decide (x.path≠p)):=by
 induction h with
 |nil=>exact .nil
 |cons a1 a2 _ ih=>
  rw[LY,LY,a1];split
  .exact .cons a1 a2 ih
  .omega
end
section
variable{s s':BR}{cap g n nx:Y}{l:Ae M}{ls:Ae (Ae Nt)}{P:Y->BR->Prop}
def Slot.up(h:Slot s cap g l)(u:Upn n P s s')(f:10<=n)(d:∀j,j<10->∀t,¬P j t):Slot s' cap g l:=by
 have o:=h.has;have k:∀i,i<5->g%2*5+i<Aim s'/512/\Cb s' (g%2*5+i)=Cb s (g%2*5+i):=fun i a=>u.keep J J (d _ J);have e:=(k 4 Bl).1;exact⟨J,fun i a=>(k i a).2.trans (h.sec i a),h.gen,h.chk,h.sums⟩
def RY.up(h:RY s g)(u:Upn n P s s')(e:∀j,j<10->∀t,P j t->Kh g t):RY s' g:=fun i d a=>by
 rcases u.sec _ a with q|⟨_,q⟩|q
 .rw[q.2];exact h i d q.1
 .rw[q];exact jU g
 .grind
def Clean.up(h:Clean s g ls nx)(u:Upn n P s s')(q:30<=n)(f:∀j,10<=j->j<30->∀t,¬P j t):Clean s' g ls nx:=by
 have v:=h.le;have r:=h.has;have a:∀k,k<nx->10+k<Aim s'/512/\Cb s' (10+k)=Cb s (10+k):=fun k d=>u.keep J J (f _ J J);refine⟨h.good,h.tot,h.le,?_,fun k d=>(a k d).2.trans (h.sec k d),fun k p o i=>u.low (h.low k p o) (f _ J J) i⟩;rcases Jy nx with e|e
 .omega
 .have:=(a (nx-1) J).1;omega
end
structure Arc(D:Dv)(g nx:Y)(ms:Ae M):Prop where
 rest:Cat.Rest D
 cap:31<=D.cap
 made:∃ms0 ls,Slot D.now D.cap g ms0/\Clean D.now g ls nx/\ms=Hu ms0 ls/\∀i,i<=Aim ls->OkC (Hu ms0 (ls.take i)) D.cap/\Km (Hu ms0 (ls.take i))
 oth:RY D.now g
section
variable{D D':Dv}{g nx m:Y}{ms:Ae M}{fs:Ae En}{P:Y->BR->Prop}
def Arc.ok(h:Arc D g nx ms):OkC ms D.cap/\Km ms:=by
 obtain⟨a,ls,_,_,rfl,d⟩:=h.made;have:=d _ (Bq _);grind
def Arc.gle(h:Arc D g nx ms):g<=4611686018427387904/\nx<=20:=by
 obtain⟨a,ls,e,d,_,_⟩:=h.made;exact⟨e.gen,d.le⟩
def Arc.up(h:Arc D g nx ms)(i:Cat.Rest D')(f:D'.cap=D.cap)(u:Upn m P D.now D'.now)(hm:30<=m)(r:∀j t,P j t->30<=j):Arc D' g nx ms:=by
 obtain⟨e,ls,p,o,k,v⟩:=h.made;have d:∀j,j<30->∀t,¬P j t:=fun j a t q=>by grind
 exact⟨i,by rw[f];exact h.cap,⟨e,ls,by rw[f];exact p.up u J fun j a=>d j J,o.up u hm fun j _ a=>d j a,k,Bh⟩,h.oth.up u fun j a t q=>absurd q (d j J t)⟩
def au{l:Ae M}(h:Cat.Rest D)(d:OkE g l)(e:OkC l D.cap)(a:10<=D.cap):Sy D (chs (g%2*5) (EK g (Ci l))) 6 (DJ D g l):=by
 rw[mL ⟨d,e⟩];have b:=Bt.writes (EK g (Ci l)) (D:=D) (g%2*5) h.dead (VA _) (by rw[IA];omega);have:=Sy.of h b;assumption
def Sy.zero{a:Ae Ch}{n:Y}{r:Dv×Y}(b:Sy D a n r)(d:D.at_=0):r.2=0:=by
 rcases b.out with⟨q,_⟩|⟨_,q,_⟩
 .omega
 .omega
def PD{cs:Ae Ch}{n:Y}{r:Dv×Y}(b:Sy D cs n r)(ha:D.at_=0):r.1.at_=0:=Nat.le_zero.1 (ha▸b.at_)
def ax{l:Ae M}{i j:Y}{t:BR}(h:CX (chs i (EK g (Ci l))) j t):i<=j/\j<i+5:=by
 obtain⟨a,b,_⟩:=(LA _ _ _ _).1 h;rw[IA]at b;omega
def js{l:Ae M}{i k:Y}(h:k<5):CX (chs i (EK g (Ci l))) (i+k) (JS g (Ci l) k):=by
 refine(LA _ _ _ _).2 ⟨J,by rw[IA];omega,?_⟩;rw[Ki,BX,mR _ _ h];rfl
def Arc.saved(h:Arc D g nx ms)(Q:g+1<=4611686018427387904){n:Y}{r:Dv×Y}(b:Sy D (chs ((g+1)%2*5) (EK ((g+1:Y):H) (Ci ms))) n r)(h0:r.2=0):Arc r.1 (g+1) 0 ms/\Upn 4096 (fun j _=>j<10) D.now r.1.now:=by
 have x:=h.rest;have B:=h.cap;have C:∀t∈EK ((g+1:Y):H) (Ci ms),Aim t=512:=VA _;have A:=Rx _ ((g+1)%2*5) C;have w:∀c∈chs ((g+1)%2*5) (EK ((g+1:Y):H) (Ci ms)),c.ok D.cap:=Us C (by rw[IA];omega);obtain⟨L,_⟩:=b.live x w h0;obtain⟨u,N⟩:=b.up x A 4096;have K:∀k,k<5->((g+1)%2*5+k+1)*512<=Aim r.1.now/\Cb r.1.now ((g+1)%2*5+k)=JS ((g+1:Y):H) (Ci ms) k:=fun k a=>b.has x A h0 XA (js a);obtain⟨v,ls,E,f,V,T⟩:=h.made;obtain⟨I,y⟩:=h.ok;have G:Upn 4096 (fun j _=>j<10) D.now r.1.now:=u.imp fun j t q=>by have:=ax q;omega
 refine⟨⟨L,by rw[b.cap];omega,⟨ms,[],⟨?_,fun i p=>(K i p).2,Q,by rw[b.cap];omega,y⟩,⟨fun l N=>Bh,Z,Bc,.inl Z,fun k a=>absurd a (Nat.not_lt_zero k),?_⟩,Z,fun i _=>by rw[List.take_nil,b.cap];exact⟨I,y⟩⟩,?_⟩,G⟩
 .simp_all
 .intro k _ a o;refine u.low (g:=g+1) (fun d=>?_) (fun t q=>by have:=ax q;omega) o;by_cases q:k<nx
  .refine .inr ?_;have e:=f.sec k q;have t:=f.tot;have:=jJ (g:=g) ls 0 (by have:=f.le;omega) E.gen f.good k J;grind
  .exact(f.low k J a d).mono (Qk g)
 .intro i p o;have e:(1-(g+1)%2)*5+i=g%2*5+i:=J;rw[e]at o ⊢;refine u.low (g:=g+1) (fun d=>.inr ?_) (fun t q=>by have:=ax q;omega) o;have S:=XQ (gen:=(g:H)) J J (Ci v) p;rw[E.sec i p,S];grind
def qW{ns:Ae Nt}(h:Cat.Rest D)(k:31<=D.cap)(o:g<=4611686018427387904)(d:ns≠[])(a:Wal.Good ns)(j:nx+Aim ns+1<=20):
 Sy D (chs (10+nx) (txs g nx ns)) (Aim ns+2) ((FC D (g:H) (nx:H) ns).1,(FC D (g:H) (nx:H) ns).2.2)/\((FC D (g:H) (nx:H) ns).2.2=0->(FC D (g:H) (nx:H) ns).2.1=((nx+Aim ns+1:Y):H)):=by
 have f:Aim ns≠0:=fun e=>d (Gx e);have i:∀n∈ns,CH n:=fun n f=>(a n f).1;have b:=Bt.writes (txs g nx ns) (D:=D) (10+nx) h.dead (bu i) (by rw[Ji];omega);rw[Ji]at b;have q:=Sy.of h b;obtain⟨r,hr⟩:∃r,r=writes D (10+nx) (txs g nx ns):=⟨_,Z⟩
 have e:FC D (g:H) (nx:H) ns=if r.2=0 then(if r.1.sync.2=0 then(r.1.sync.1,(nx:H)+Aim ns+1,0)else(r.1.sync.1,0,r.1.sync.2))else(r.1,0,r.2):=by
  rw[hr];exact dH (by unfold Ii;omega) i
 grind
def bt{ns:Ae Nt}{i j:Y}{t:BR}(h:CX (chs i (txs g nx ns)) j t):i<=j/\j<i+(Aim ns+1):=by
 obtain⟨a,b,_⟩:=(LA _ _ _ _).1 h;rw[Ji]at b;omega
def Arc.Aia{ns:Ae Nt}(h:Arc D g nx ms)(Q:ns≠[])(e:Wal.Good ns)(v:nx+Aim ns+1<=20)(N:OkC (DS ms ns) D.cap)(A:Km (DS ms ns)){n:Y}{r:Dv×Y}(b:Sy D (chs (10+nx) (txs g nx ns)) n r)(h0:r.2=0):Arc r.1 g (nx+Aim ns+1) (DS ms ns)/\Upn 4096 (fun j _=>j<30) D.now r.1.now:=by
 have x:=h.rest;have E:=h.cap;have T:∀n∈ns,CH n:=fun n S=>(e n S).1;have G:∀t∈txs g nx ns,Aim t=512:=bu T;have y:=Rx _ (10+nx) G;have p:∀c∈chs (10+nx) (txs g nx ns),c.ok D.cap:=Us G (by rw[Ji];omega);obtain⟨L,_⟩:=b.live x p h0;obtain⟨u,B⟩:=b.up x y 4096;have K:∀k,k<Aim ns+1->(10+nx+k+1)*512<=Aim r.1.now/\Cb r.1.now (10+nx+k)=(txs g nx ns).getD k []:=fun k V=>b.has x y h0 XA ((LA _ _ _ _).2 ⟨J,by rw[Ji];omega,Bl⟩);obtain⟨f,ls,a1,d,a3,a4⟩:=h.made;have I:Upn 4096 (fun j _=>j<30) D.now r.1.now:=u.imp fun j t q=>by have:=bt q;omega
 have w:∀j,j<10+nx->∀t,¬CX (chs (10+nx) (txs g nx ns)) j t:=fun j C t q=>by have:=bt q;omega
 have a:Hu f (ls++[ns])=DS ms ns:=by rw[gL,<-a3]
 have o:ED (ls++[ns])=nx+Aim ns+1:=by rw[<-d.tot];simp[ED];omega
 refine⟨⟨L,by rw[b.cap];omega,⟨f,ls++[ns],by rw[b.cap];exact a1.up u Bl fun j C=>w j J,⟨?_,o,v,?_,?_,?_⟩,a.symm,?_⟩,h.oth.up u fun j C t q=>absurd q (w j J t)⟩,I⟩
 .intro l B;rcases Dz.1 B with q|q
  .exact d.good l q
  .grind
 .have q:=(K (Aim ns) (OC _)).1;omega
 .intro k V;rw[jK,d.tot,FW,BX];by_cases q:k<nx
  .rw[FA (by rw[UR,d.tot];omega),<-BX];have h9:=d.has;exact(u.keep J J (w _ J)).2.trans (d.sec k q)
  .rw[Hl (by rw[UR,d.tot];omega),UR,d.tot,<-BX];grind
 .intro k h2 h3 h4;exact u.low (d.low k J h3) (fun t q=>by have:=bt q;omega) h4
 .intro i W;rw[BA,CJ]at W;rw[b.cap];by_cases q:i<=Aim ls
  .grind
  .rw[DA Bh,a];grind
end
def NU(l:Ae M)(n:Nt):Ae M:=if n.kind=1 then Cc M.path n.mem l else if n.kind=2 then l.filter (fun y=>decide (y.path≠n.mem.path))else l
def vF{m:BR->Av M}{a:Ae M}(h:IsMap M.path m a)(n:Nt):IsMap M.path (MO m n) (NU a n):=by
 unfold MO NU;split
 .exact h.put M.path n.mem
 .split
  .exact h.del M.path n.mem.path
  .exact h
def Nx{l:Ae M}(h:Df M.path l)(ns:Ae Nt):DS l ns=ns.foldl NU l:=by
 refine Uk ?_
 have d:∀(ns:Ae Nt) (m:BR->Av M) (a:Ae M),IsMap M.path m a->IsMap M.path (ns.foldl MO m) (ns.foldl NU a):=fun ns=>by
  induction ns with
  |nil=>simp
  |cons n ns ih=>exact fun m a q=>ih _ _ (vF q n)
 exact d ns _ _ (jB M.path h)
def Za{α:Type}(key:α->BR)(x:α):∀l:Ae α,(Cc key x l).map key=Cc id (key x) (l.map key)
 |[]=>rfl
 |y::l=>by
  have e:Ce key x y=Ce id (key x) (key y):=rfl;rw[Cp];unfold Cc;rw[e];split
  .rfl
  .split
   .rfl
   .rw[Cp,Za key x l]
def SF(ks l:Ae BR):Ae BR:=ks.foldl (fun l k=>Cc id k l) l
def Vx{α β:Type}{k1:α->BR}{k2:β->BR}{a:Ae α}{b:Ae β}(e:a.map k1=b.map k2)(h:Df k1 a):Df k2 b:=by
 have d:(a.map k1).Pairwise (fun x y=>FX x y=-1):=Mc.2 h;rw[e]at d;exact Mc.1 d
def jH:∀(ks l:Ae BR),Df id l->(∀k∈ks,k∈SF ks l)/\∀y∈l,y∈SF ks l
 |[],l,_=>⟨fun k hk=>Bh,fun y hy=>hy⟩
 |a::ks,l,h=>by
  have h2:=ML id a h;obtain⟨i1,i2⟩:=jH ks _ h2;have hm:=Mz id a h;refine⟨fun k hk=>?_,fun y hy=>i2 _ ((hm y).2 ?_)⟩
  .rcases List.mem_cons.1 hk with rfl|q
   .exact i2 _ ((hm _).2 (.inl Z))
   .exact i1 k q
  .grind
def Zx{α:Type}[DecidableEq α]:∀(a b:Ae α),a.Nodup->(∀x∈a,x∈b)->Aim a<=Aim b
 |[],_,_,_=>BD _
 |x::a,b,h,hs=>by
  rw[Qg]at h;have hx:=hs x (Fa ..);have ih:=Zx a (b.erase x) h.2 fun y hy=>(List.mem_erase_of_ne (fun e:y=x=>h.1 (e▸hy))).2 (hs y (El _ hy));grind
def mq{α:Type}{key:α->BR}{l:Ae α}(h:Df key l){x y:α}(hx:x∈l)(a:y∈l)(e:key x=key y):x=y:=by
 have q:=jB key h;have f:=(q.mem x).1 hx;have d:=(q.mem y).1 a;grind
def jv{α:Type}{key:α->BR}{l:Ae α}(h:Df key l){x:α}(hx:x∈l):Cc key x l=l:=
 ag key (ML key x h) h fun z=>(Mz key x h z).trans ⟨fun q=>q.elim (fun e=>e▸hx) fun q=>q.1,fun q=>by
  by_cases e:key z=key x
  .exact .inl (mq h q hx e)
  .grind⟩
def Acx(x:En):GL x=Jf En.path x:=by
 funext r y;unfold GL Jf;have e:Ce En.path x y=FX x.path y.path:=rfl;grind
def Afh{l:Ae En}(h:Df En.path l)(x:En):De l x=Cc En.path x l:=by
 rw[<-vj En.path h];unfold De ET insF SB;rw[Acx]
def oQ:∀(xs l:Ae En),Df En.path l->xs.foldl De l=xs.foldl (fun f x=>Cc En.path x f) l/\Df En.path (xs.foldl De l)
 |[],l,h=>⟨Z,h⟩
 |x::xs,l,h=>by
  have e:=Afh h x;have h2:Df En.path (De l x):=by rw[e];exact ML En.path x h
  obtain⟨d,a⟩:=oQ xs _ h2;grind
def zx{α:Type}{R:α->α->Prop}(d:∀a b,R a b->R b a){l:Ae α}(h:l.Pairwise R):∀a∈l,∀b∈l,a=b∨R a b:=by
 induction h with
 |nil=>simp
 |cons h1 _ ih=>
  grind
def lp{l l':Ae Xt}{cap:H}(h:OkX l cap)(hs:l'.Sublist l):OkX l' cap:=⟨h.room,fun x hx=>h.fit x (hs.subset hx),h.far.sublist hs⟩
def ju{α:Type}{key:α->BR}(x:α){l:Ae α}(h:Df key l):(Cc key x l).Perm (x::l.filter fun y=>decide (key y≠key x)):=by
 have d:∀{l:Ae α},Df key l->l.Nodup:=fun h=>h.imp fun {a b} (q:Ce key a b=-1) (e:a=b)=>by
  rw[(JE key a b).2 (Ar key e)]at q;omega
 have g:=d (ML key x h);have f:(x::l.filter fun y=>decide (key y≠key x)).Nodup:=Qg.2 ⟨fun q=>by grind,(d h).sublist List.filter_sublist⟩
 have e:∀z,z∈Cc key x l↔z∈x::l.filter fun y=>decide (key y≠key x):=fun z=>by
  rw[Mz key x h z];simp
 classical
 grind
def Yg{m:M}{l:Ae M}{r:Ae Xt}{cap:H}(hl:Df M.path l)(h:OkX (BV l++(m.start,m.sectors)::r) cap):OkX (BV (Cc M.path m l)++r) cap:=by
 have d:(BV (Cc M.path m l)++r).Perm ((m.start,m.sectors)::(BV (l.filter fun y=>decide (y.path≠m.path))++r)):=((ju m hl).map _).append_right r;rw[SP d];have a:((m.start,m.sectors)::(BV l++r)).Perm (BV l++(m.start,m.sectors)::r):=List.perm_middle.symm;rw[<-SP a]at h;refine lp h (TF.cons_cons _ (TF.append (TF.map _ List.filter_sublist) (TF.refl _)))
def tW{l:Ae M}{cap:H}(h:OkX (BV l) cap)(p:BR):OkX (BV (l.filter fun y=>decide (y.path≠p))) cap:=lp h (TF.map _ List.filter_sublist)
def mz(z:Xt×En):M:=⟨z.2.path,z.1.1,z.1.2,(Aim z.2.data:H),Fc z.2.data⟩
def bN:∀(l:Ae En) (ps:Ae Xt),HJ Dw l ps=(ps.zip l).map fun z=>⟨1,mz z⟩
 |[],ps=>by simp
 |x::l,[]=>rfl
 |x::l,p::ps=>by
  rw[List.zipWith_cons_cons,WN,Cp,bN l ps];rfl
def YA(zs:Ae (Xt×En))(l:Ae M):(zs.map fun z=>(⟨1,mz z⟩:Nt)).foldl NU l=zs.foldl (fun l z=>Cc M.path (mz z) l) l:=by
 rw[Wx];rfl
def lS{D:Dv}{cap:H}:∀(zs:Ae (Xt×En)) (ms:Ae M) (fs:Ae En),Df M.path ms->OkX (BV ms++zs.map Prod.fst) cap->Fil D ms fs->(∀z∈zs,Stands D (mz z) z.2)->
 Df M.path (zs.foldl (fun l z=>Cc M.path (mz z) l) ms)/\OkX (BV (zs.foldl (fun l z=>Cc M.path (mz z) l) ms)) cap/\Fil D (zs.foldl (fun l z=>Cc M.path (mz z) l) ms) ((zs.map RZ).foldl (fun f x=>Cc En.path x f) fs)/\
  ∀m∈zs.foldl (fun l z=>Cc M.path (mz z) l) ms,m∈ms∨∃z∈zs,m=mz z
 |[],ms,fs,h1,h2,h3,_=>⟨h1,Bh,h3,fun m hm=>.inl hm⟩
 |z::zs,ms,fs,h1,h2,h3,h4=>by
  obtain⟨i1,i2,i3,i4⟩:=lS (D:=D) (cap:=cap) zs _ _ (ML M.path (mz z) h1) (Yg (m:=mz z) h1 h2) (h3.ins (m:=mz z) (x:=z.2) Z (h4 z (Fa ..))) fun y hy=>h4 y (El _ hy);refine⟨i1,i2,i3,fun m hm=>?_⟩;rcases i4 m hm with q|⟨y,hy,e⟩
  .rcases(Mz M.path (mz z) h1 m).1 q with q|q
   .grind
   .grind
  .grind
def ZY:∀(zs:Ae M) (ms:Ae M),(zs.foldl (fun l m=>Cc M.path m l) ms).map M.path=SF (zs.map M.path) (ms.map M.path)
 |[],ms=>rfl
 |z::zs,ms=>by
  rw[LZ,ZY zs,Za];rfl
end
end Go.Proofs.YtkmlafmjaeeanaaGreatDoor
