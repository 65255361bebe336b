/- TopSalvage, part E: functions of spaces, catalog, log and vault; the plain vault. -/
import Derived.Test.YtkmlafmjaeeanaaGreatDoorMrsD
set_option linter.all false
set_option maxHeartbeats 2000000
set_option maxRecDepth 20000
open Go Go.RowKit Go.Proofs.Tryz
open _root_ renaming rfl→Z,Nat→Y,Int→H,List→Ae,if_neg→Ag,if_pos→Aj,Array→Ap,Bool→Ar,Option→Av,trivial→Ay,congrArg→AF,absurd→AH,UInt8→AI,String→AJ,decide_eq_true→AM,decide_eq_false→AN,of_decide_eq_true→AO,dif_pos→AQ,of_decide_eq_false→AR
open _root_.And renaming intro→Il
open _root_.Array renaming replicate→Jv
open _root_.Bool renaming true→Af,false→Ai
open _root_.Go renaming World→Ad,Value→Ah,TypeId→Aw,Addr→AB,Program→AC,Operand→AD,Act→AE,Oper→AG,IntKind→AK,Code→AL,Exit→AP
open _root_.List renaming range→BE,replicate→BH,length→DQ,zipWith→HL,length→Alz
open _root_.Nat renaming blt→BK,beq→JE,reducePow→Xe
open _root_.Option renaming some→Qf,some→J,none→Aa
open _root_.Prod renaming snd→Sb
open _root_.UInt8 renaming ofNat→BV
open Go.Proofs.Tryz renaming prog→eD
open _root_.Go.Value renaming ownBlock→Pi
namespace Go.Proofs.YtkmlafmjaeeanaaGreatDoor
attribute [local irreducible] OW KW QW EX GW NV
section
open Fld Ust Pax Pth Tar
def Abp(s p:Bg)(w:Ad):Bm eD 93 [str s,str p] w fun v w'=>v=.bool (p.isPrefixOf s)/\w'=w:=
 Hj func93 Bi (Afz ⟨⟨s⟩⟩ ⟨⟨p⟩⟩ w)
def yG{x:En}(h:(Hn x).2=0):(Hn x).1=BU x:=by
 unfold Hn at h ⊢;split
 .rename_i q;rw[Aj q]at h;cases h
 .rename_i q;rw[Ag q]at h;split
  .rename_i a;rw[Aj a]at h;cases h
  .rfl
abbrev RdQ(s:Bg)(w:Ad)(v:Ah)(w':Ad):Prop:=(∃x:En,∃n e:Y,v=.tuple #[.agg x.cells.toArray,Bb (n:H),Bb (e:H)]/\∀y,Hq s=J y->e=0/\x=y/\n=Alz (BU y))/\Be w w'
def oi(s:Bg)(hs:Alz s<=1000000000)(w:Ad)(hG:Env w):
 Bm eD 61 [str s] w fun v w'=>RdQ s w v w':=by
 have cH:=fun s' (h:Alz s'<=1000000000) k hk w=>Agp s' k hk X w;have bad:Hq s=Aa->∀w',Be w w'->RdQ s w (.tuple #[.agg #[str [],str []],Bb 0,Bb 242]) w':=fun h w' hx=>⟨⟨⟨[],[]⟩,0,242,Z,fun y z=>by rw[h]at z;cases z⟩,hx⟩;obtain⟨T,a9,cf,ce⟩:=jG s 120;refine Bw func61 Z ntmps61 Bi Z ?_;refine(O 2∘Zn) ?_;rintro tb w1 b8 j d;refine(O 12∘Zc (cH s hs 120 Bc w1)) ?_;rintro _ w2⟨rfl,ai⟩;refine(O 3∘Zn) ?_;rintro xb w3 b7 b1 af;refine(Zs b1 (hlt:=Bq _)) ?_;rintro w4 Q bb;refine(O 6) ?_;replace Q:Bk w4 xb 167 (DN s 120).1.cells:=Q;have z1:=d.size;have z2:=ai.size;have z3:=af.size;have z4:=bb.size;have ca:=j.lt;have g:Be w1 w4:=Bp (ai.trans af) bb (ai.trans af).size Bv;refine Lc (fun((at_,f,wr):Y×(Bg)×Ad)=>(Ox s=J (at_,f)/\at_<=Alz s/\Alz f<=Alz s/\Be w1 wr,[(0,str (s)),(2,.pointer (J ⟨tb,0,Aa⟩)),(5,Bb at_),(6,str (f))],wr)) ?_ ?_
 .have cc:∀i v,(DN s 120).1.cells[i]? =J v->w4.cell? ⟨xb,i,Aa⟩=J v:=fun i v hv=>Q.I hv;have D:Ox s=if(DN s 120).2=Af then if 512<(DN s 120).1.size∨Alz s<1024∨(Alz s:H)-512<(DN s 120).1.size then Aa else if(Ex ((s.drop 512).take (DN s 120).1.size.toNat)).2≠0∨Alz (Ex ((s.drop 512).take (DN s 120).1.size.toNat)).1≠1 then Aa else J (1024,((Ex ((s.drop 512).take (DN s 120).1.size.toNat)).1.map Pr.val).headD [])else J (0,[]):=rfl;rw[a9,Oc]at D;have C:w4.cell? ⟨xb,1,Aa⟩=J (Bb (T:H)):=by rw[<-a9];exact Q.I Z
  refine Ga Z (fun a0=>?_) (fun a0=>?_)
  .rw[Aj a0]at D
   have no:512<(T:H)∨Alz s<1024∨(Alz s:H)-512<(T:H)->Hq s=Aa:=fun z=>by
    rw[Aj z]at D;unfold Hq;rw[D]
   refine(O 4∘Zv (BR C)∘O 2)<|Zd 26 (fun c1=>?_) fun c1=>?_
   .refine(O 17∘Zs (j.a g) (hlt:=Bq _)) ?_;rintro w5 I K;refine(O 3) ?_;refine DC<|Hr Z iu Z Eu Z Z Z (I) Z ?_;exact bad (no (.inl X)) _ (Bp (d.trans g) K (d.trans g).size Bv)
   .refine(O 5)<|Zd 31 (fun c2=>?_) fun c2=>?_
    .refine(O 12∘Zs (j.a g) (hlt:=Bq _)) ?_;rintro w5 I K;refine(O 3) ?_;refine DC<|Hr Z iu Z Eu Z Z Z (I) Z ?_;exact bad (no (.inr (.inl X))) _ (Bp (d.trans g) K (d.trans g).size Bv)
    .refine(O 1∘Zv (BR C)∘O 6)<|Zi (fun c3=>?_) fun c3=>?_
     .refine(O 3∘Zs (j.a g) (hlt:=Bq _)) ?_;rintro w5 I K;refine(O 3) ?_;refine DC<|Hr Z iu Z Eu Z Z Z (I) Z ?_;exact bad (no (.inr (.inr X))) _ (Bp (d.trans g) K (d.trans g).size Bv)
     .rw[Ag (show ¬(512<(T:H)∨Alz s<1024∨(Alz s:H)-512<(T:H)) by omega)]at D;have bf:(s.drop 512).take (512+T-512)=(s.drop 512).take T:=by rw[Ko]
      obtain⟨R,hR⟩:∃R,R=(s.drop 512).take T:=⟨_,Z⟩;have b3:Alz R<=Alz s:=by rw[hR,BW,CA];omega
      have V:=uv R;rw[<-hR]at D bf;have cp:=Aay R X w4 (hG.a (d.trans g));generalize b9:Ex R=dp at D cp V;obtain⟨l,e⟩:=dp;refine(O 5∘Zv (BR C)∘O 1∘Zv (by exact Oa (i:=512) eT Z Z Z X)) ?_;rw[bf];refine(Zc cp) ?_;rintro _ w5⟨u,rfl,a1,bl⟩;refine(O 8) ?_;obtain⟨A5,c5,rfl,_,bi⟩:=a1.slice;have n:=g.trans bl
      have a3:e≠0∨Alz l≠1->Hq s=Aa:=fun z=>by
       rw[Aj z]at D;unfold Hq;rw[D]
      refine(O 4)<|Zd 51 (fun c4=>?_) fun c4=>?_
      .refine(O 9∘Zs (j.a n) (hlt:=Bq _)) ?_;rintro w6 aj al;refine(O 3) ?_;refine DC<|Hr Z iu Z Eu Z Z Z (aj) Z ?_;exact bad (a3 (.inl c4)) _ (Bp (d.trans n) al (d.trans n).size Bv)
      .refine(O 5)<|Zi (fun c5=>?_) fun c5=>?_
       .refine(O 3∘Zs (j.a n) (hlt:=Bq _)) ?_;rintro w6 aj al;refine(O 3) ?_;refine DC<|Hr Z iu Z Eu Z Z Z (aj) Z ?_;exact bad (a3 (.inr c5)) _ (Bp (d.trans n) al (d.trans n).size Bv)
       .rw[Ag (fun z=>z.elim c4 c5)]at D
        obtain⟨p,rfl⟩:∃p,l=[p]:=by
         rcases l with _|⟨p,_|⟨q,l⟩⟩
         .exact AH (show(0:Y)≠1 by decide) c5
         .exact⟨p,Z⟩
         .simp at c5
        obtain⟨b5,o5,rfl,_,bs⟩:=bi.at_ (Nat.succ_pos _);refine(O 5∘Zq (by exact fun _=>BR (XG (Be.drewN w5 _) (bs 1 _ Z)))∘O 2∘QW.nil) fun nq=>(Lm (1024,p.val,(w5.drewN nq))) ?_;exact⟨D,X,BA (V p (Cp.2 Z)) b3,n.trans (Be.drewN w5 nq)⟩
  .rw[Ag (by rw[a0];decide)]at D;refine(O 1∘Lm (0,([]),w4)) ?_;exact⟨D,BC _,BC _,g⟩
 .rintro⟨at_,f,wr⟩⟨D,cg,cd,xr⟩
  have L:Hq s=if(DN (s.drop at_) 48).2=Ai then Aa else match Bz.takeS s (at_+512)with
   |none=>Aa
   |some r=>QI s (if f=[]then(DN (s.drop at_) 48).1.g else f) r.1:=by
   show(match Ox s with|none=>Aa|some (a,p)=>_)=_;rw[D];rfl
  obtain⟨_,_,_,a7⟩:=jG (s.drop at_) 48
  have W:(DN (s.drop at_) 48).2=Af->at_+512<=Alz s:=fun z=>by
   unfold DN at z;split at z
   .cases z
   .rename_i q;rw[CA]at q;omega
  refine(O 4∘Zv (by exact LR eT Z Z X)∘Zc (cH (s.drop at_) (by rw[CA];omega) 48 Bc wr)) ?_;rintro _ w6⟨rfl,ab⟩;refine(O 3) ?_;generalize DN (s.drop at_) 48=hh at L a7 W;obtain⟨h,b⟩:=hh;refine(Zn) ?_;rintro b0 w7 b6 bd a4;refine(Zs bd (hlt:=Bq _)) ?_;rintro w8 bc bq;refine(O 8) ?_;replace bc:Bk w8 b0 167 h.cells:=bc;have N:Be w1 w8:=xr.trans (Bp (ab.trans a4) bq (ab.trans a4).size (by simp;have:=ab.size;omega));refine Ga Z (fun ao=>?_) (fun ao=>?_)
  .rw[Aj (by simpa using ao)]at L;refine(O 3∘Zs (j.a N) (hlt:=Bq _)) ?_;rintro w9 bm bn;refine(O 3) ?_;refine DC<|Hr Z iu Z Eu Z Z Z (bm) Z ?_;exact bad L _ (Bp (d.trans N) bn (d.trans N).size Bv)
  .have bx:b=Af:=by simpa using ao
   subst bx;rw[Ag (show ¬(Af=Ai) by decide)]at L;have b2:=W Z;refine(O 5∘Zv (by exact HJ (r:=[]) Z Z)∘O 1)<|Lc (fun(o:(Bg))=>(o=(if f=[]then h.g else f),[(0,str (s)),(2,.pointer (J ⟨tb,0,Aa⟩)),(5,Bb at_),(6,str (o))],w8)) ?_ ?_
   .refine Zi (fun hp=>?_) fun hp=>?_
    .refine(O 5∘Lm h.g) ?_;exact(Aj hp).symm
    .refine(O 1∘Lm f) ?_;exact(Ag hp).symm
   .rintro o a8
    have b4:Alz o<=1000000000:=by
     rw[a8];split
     .exact BA a7 Bc
     .omega
    have L:Hq s=match Bz.takeS s (at_+512)with
     |none=>Aa
     |some r=>QI s o r.1:=by rw[a8];exact L
    refine(O 5∘Zc (Ahv s (at_+512) b2 hs w8)) ?_;rintro _ w9⟨⟨t,q,e,rfl,cb,a6⟩,bj⟩;refine(O 14) ?_;have G:=N.trans bj;refine Zi (fun he=>?_) fun he=>?_
    .refine(O 3∘Zs (j.a G) (hlt:=Bq _)) ?_;rintro wa A B;refine(O 3) ?_;refine DC<|Hr Z iu Z Eu Z Z Z (A) Z ?_
     exact bad (by
      rw[L];cases hz:Bz.takeS s (at_+512)with
      |none=>rfl
      |some r=>exact AH (a6 r hz).1 he) _ (Bp (d.trans G) B (d.trans G).size Bv)
    .have L:∀y,Hq s=J y->QI s o t=J y:=fun y z=>by
      rw[L]at z;cases hz:Bz.takeS s (at_+512)with
      |none=>rw[hz]at z;cases z
      |some r=>
       rw[hz]at z;rw[(a6 r hz).2];exact z
     have cm:=nW ⟨o,t⟩ (by show Alz o<=_;omega) (by show Alz t<=_;omega) w9 (hG.a (d.trans G));have P:QI s o t=if(Hn ⟨o,t⟩).2≠0∨(Hn ⟨o,t⟩).1.isPrefixOf s=Ai then Aa else J ⟨o,t⟩:=rfl;generalize ba:Hn ⟨o,t⟩=mk at cm P;obtain⟨E,me⟩:=mk;refine(O 5∘Zc cm) ?_;rintro _ bh⟨rfl,a5⟩;refine(O 8) ?_;have m:=G.trans a5
     have a2:me≠0∨E.isPrefixOf s=Ai->Hq s=Aa:=fun z=>by
      cases hz:Hq s with
      |none=>rfl
      |some y=>
       have:=L y hz;rw[P,Aj z]at this;cases this
     refine(O 4)<|Zd 94 (fun c6=>?_) fun c6=>?_
     .refine(O 10∘Zs (j.a m) (hlt:=Bq _)) ?_;rintro wa A B;refine(O 3) ?_;refine DC<|Hr Z iu Z Eu Z Z Z (A) Z ?_;exact bad (a2 (.inl c6)) _ (Bp (d.trans m) B (d.trans m).size Bv)
     .refine(O 2∘Zc (Abp s E bh)) ?_;rintro _ _⟨rfl,rfl⟩;refine(O 3) ?_;refine Ga Z (fun S=>?_) (fun S=>?_)
      .refine(O 3∘Zs (j.a m) (hlt:=Bq _)) ?_;rintro wa A B;refine(O 3) ?_;refine DC<|Hr Z iu Z Eu Z Z Z (A) Z ?_;exact bad (a2 (.inr (by simpa using S))) _ (Bp (d.trans m) B (d.trans m).size Bv)
      .rw[Ag (fun z=>z.elim c6 fun z=>by rw[z]at S;cases S)]at P;refine(O 8∘Zs (j.a m) (hlt:=Bq _)) ?_;rintro wa A B;refine(O 3) ?_;refine DC<|Hr Z iu Z Eu Z Z Z (A) Z ?_
       exact⟨⟨⟨o,t⟩,Alz E,0,Z,fun y z=>by
        have ey:=P.symm.trans (L y z);injection ey with ey;subst ey;have hE:=yG (x:=⟨o,t⟩) (by rw[ba];exact Dd.1 c6);rw[ba]at hE;exact⟨Z,Z,AF DQ hE⟩⟩,Bp (d.trans m) B (d.trans m).size Bv⟩
def Agt(x:En)(hx:Fits x)(suf:Bg)(hs:Alz (BU x++suf)<=1000000000)(w:Ad)(hG:Env w):
 Bm eD 61 [str (BU x++suf)] w fun v w'=>v=.tuple #[.agg x.cells.toArray,Bb ((Alz (BU x):Y):H),Bb ((0:Y):H)]/\Be w w':=
 (oi _ hs w hG).mono fun v w'⟨⟨y,n,e,h1,h2⟩,hx'⟩=>by
  obtain⟨rfl,rfl,rfl⟩:=h2 x (mE hx suf);exact⟨h1,hx'⟩
end
section
open Cat
def Lw:H->Ae Xt->H
 |a,[]=>a
 |_,x::r=>Lw (x.1+x.2) r
def FL:H->Ae Xt->Ae Xt
 |_,[]=>[]
 |a,x::r=>(if a<x.1 then[(a,x.1-a)]else[])++FL (x.1+x.2) r
def YA(x:Xt):∀(l:Ae Xt) (a:H),Lw a (l++[x])=x.1+x.2
 |[],_=>rfl
 |_::l,_=>YA x l _
def js(x:Xt):∀(l:Ae Xt) (a:H),FL a (l++[x])=FL a l++(if Lw a l<x.1 then[(Lw a l,x.1-Lw a l)]else[])
 |[],a=>List.append_nil _
 |y::l,a=>by
  show _++FL _ (l++[x])=(_++FL _ l)++_;rw[js,Cq];rfl
def UX:∀(l:Ae Xt) (a:H),Alz (FL a l)<=Alz l
 |[],_=>Bq _
 |x::l,a=>by
  have:=UX l (x.1+x.2);unfold FL;grind
structure RowX(a C:H)(l:Ae Xt):Prop where
 G:∀x∈l,a<=x.1
 high:∀x∈l,x.1+x.2<=C
 one:∀x∈l,1<=x.2
 chain:l.Pairwise fun x y=>x.1+x.2<=y.1
def RowX.tail{a C:H}{x:Xt}{l:Ae Xt}(h:RowX a C (x::l)):RowX (x.1+x.2) C l:=
 ⟨fun y hy=>(Iq.1 h.chain).1 y hy,fun y hy=>h.high y Bf,fun y hy=>h.one y Bf,(Iq.1 h.chain).2⟩
def Jz(a C n:H)(l:Ae Xt)(s:H):Prop:=a<=s/\s+n<=C/\∀x∈l,apart x (s,n)
def gY{C n:H}(i:1<=n):∀(l:Ae Xt) (a:H),a<=C->RowX a C l->(∀g,(FL a (l++[(C,0)])).find? (fun g=>decide (n<=g.2))=J g->Jz a C n l g.1/\∀s,Jz a C n l s->g.1<=s)/\
 ((FL a (l++[(C,0)])).find? (fun g=>decide (n<=g.2))=Aa->∀s,¬Jz a C n l s)
 |[],a,ha,h=>by
  have e:FL a ([]++[(C,0)])=if a<C then[(a,C-a)]else[]:=List.append_nil _;rw[e];split
  .rename_i q;rw[List.find?_cons];split
   .rename_i q2;rw[decide_eq_true_eq]at q2
    exact⟨fun g hg=>by
     injection hg with hg;subst hg;exact⟨⟨X,X,Bh⟩,fun s hs=>hs.1⟩,Bh⟩
   .rename_i q2;have q2:¬n<=C-a:=Bf;exact⟨Bh,fun _ s hs=>by have:=hs.1;have:=hs.2.1;omega⟩
  .rename_i q;exact⟨Bh,fun _ s hs=>by have:=hs.1;have:=hs.2.1;omega⟩
 |x::l,a,ha,h=>by
  have h1:=h.G x Bh;have h2:=h.high x Bh;have h3:=h.one x Bh;have ht:=h.tail;obtain⟨i1,i2⟩:=gY i l (x.1+x.2) h2 ht
  have up:∀s,Jz (x.1+x.2) C n l s->Jz a C n (x::l) s:=fun s hs=>⟨by have:=hs.1;omega,hs.2.1,fun y d=>by
   rcases List.mem_cons.1 d with rfl|d
   .exact .inl hs.1
   .exact hs.2.2 y d⟩
  have f:∀s,Jz a C n (x::l) s->(¬n<=x.1-a)->Jz _ C n l s:=fun s hs j=>⟨by
   rcases hs.2.2 x Bh with q|q
   .omega
   .have:=hs.1;omega,hs.2.1,fun y d=>hs.2.2 y Bf⟩
  have e:FL a (x::l++[(C,0)])=(if a<x.1 then[(a,x.1-a)]else[])++FL _ (l++[(C,0)]):=rfl;rw[e];split
  .rename_i q;rw[RT,List.find?_cons];split
   .rename_i q2;have q2:n<=x.1-a:=Bf
    exact⟨fun g hg=>by
     injection hg with hg;subst hg;refine⟨⟨X,X,fun y d=>.inr ?_⟩,fun s hs=>hs.1⟩;rcases List.mem_cons.1 d with rfl|d
     .omega
     .have:=(Iq.1 h.chain).1 y d;omega,Bh⟩
   .grind
  .grind
def IQ(l:Ae Xt)(cap n s:H):Prop:=Jz 30 (max cap 30) n l s/\∀s',Jz 30 (max cap 30) n l s'->s<=s'
def IQ.ok{l:Ae Xt}{cap n s:H}(e:1<=n)(h:IQ l cap n s)(a:OkX l cap):OkX (l++[(s,n)]) cap:=by
 obtain⟨⟨f,j,i⟩,_⟩:=h;refine⟨a.room,fun x d=>?_,Na.2 ⟨a.far,Bh,fun x d y g=>?_⟩⟩
 .rcases CW.1 d with q|q
  .exact a.fit x q
  .rw[Cp.1 q];exact⟨f,e,X,X⟩
 .grind
def Jz.perm{a C n s:H}{l l':Ae Xt}(hp:l'.Perm l):Jz a C n l' s↔Jz a C n l s:=
 ⟨fun h=>⟨h.1,h.2.1,fun x hx=>h.2.2 x Bf⟩,fun h=>⟨h.1,h.2.1,fun x hx=>h.2.2 x Bf⟩⟩
def Ads{l:Ae Xt}{cap:H}(d:OkX l cap)(f:∀i j (hi:i<Alz l) (hj:j<Alz l),i<j->¬HR l[j] l[i]<0):RowX 30 (max cap 30) l:=by
 refine⟨fun x a=>(d.fit x a).1,fun x a=>by have:=d.fit x a;unfold HT at this;omega,fun x a=>(d.fit x a).2.1,Ir.2 fun i j hi hj e=>?_⟩;have g:=f i j hi hj e;rw[Sh]at g;have h:=(d.fit l[j] Bh).2.1;rcases Ir.1 d.far i j _ _ e with q|q
 .omega
 .omega
def JP(l:Ae Xt):H:=l.foldl (fun a x=>max a (x.1+x.2)) 30
def vi(l:Ae Xt)(x:Xt):JP (l++[x])=max (JP l) (x.1+x.2):=by unfold JP;simp
def YB(l:Ae Xt):30<=JP l/\∀x∈l,x.1+x.2<=JP l:=by
 have h:∀(l:Ae Xt) (a:H),a<=l.foldl (fun a x=>max a (x.1+x.2)) a/\∀x∈l,x.1+x.2<=l.foldl (fun a x=>max a (x.1+x.2)) a:=fun l=>by
  induction l with
  |nil=>simp
  |cons y l ih=>
   intro a;obtain⟨e,d⟩:=ih (max a (y.1+y.2));grind
 exact h l 30
def gL{l:Ae Xt}{C:H}(d:30<=C)(h:∀x∈l,x.1+x.2<=C):JP l<=C:=by
 have h:∀(l:Ae Xt) (a:H),a<=C->(∀x∈l,x.1+x.2<=C)->l.foldl (fun a x=>max a (x.1+x.2)) a<=C:=fun l=>by
  induction l with
  |nil=>simp
  |cons y l ih=>
   grind
 exact h l 30 d ‹_›
end
section
open Pth Rec Srt Cat
def Ro(l:Ae Xt)(cap:H):Jq l cap=0↔OkX l cap:=by
 unfold Jq;simp
def fm{C:H}:∀{l:Ae Xt} {a:H},30<=a->a<=C->RowX a C l->30<=Lw a l/\Lw a l<=C
 |[],a,h1,h2,h=>⟨h1,h2⟩
 |x::l,a,h1,h2,h=>by
  have h3:=h.G x (Ip ..);have h4:=h.high x (Ip ..);have h5:=h.one x (Ip ..);exact fm (l:=l) X h4 h.tail
def RowX.take{a C:H}{l:Ae Xt}(h:RowX a C l)(i:Y):RowX a C (l.take i):=
 ⟨fun x hx=>h.G x (Kn hx),fun x hx=>h.high x (Kn hx),fun x hx=>h.one x (Kn hx),h.chain.sublist (List.take_sublist _ _)⟩
def Ago(l:Ae Xt)(hl:Alz l<=1000000)(cap:H)(A:Av AB)(c B:Y)(w:Ad)(hs:Sl w B A (Ei l)):
 Bm eD 89 [.slice A (Alz l) c,Bb cap] w fun v w'=>(∃(u:Ah) (e:Y),v=.tuple #[u,Bb (e:H)]/\(¬OkX l cap/\e=220∨OkX l cap/\e=0/\∃l':Ae Xt,l'.Perm l/\RowX 30 (max cap 30) l'/\Bn w' w.heap.size 121 2 u (Alz (FL 30 (l'++[(max cap 30,0)]))) (Ei (FL 30 (l'++[(max cap 30,0)])))))/\Be w w':=by
 have al:Jq l cap=0∨Jq l cap=220:=by unfold Jq;split<;>simp
 refine Bw func89 Z ntmps89 Bi Z ?_;refine(O 10∘Zc (Tk l hl cap A c B w hs)) ?_;rintro _ w1⟨rfl,D⟩;refine(O 7)<|Zi (fun hc=>?_) fun hc=>?_
 .have ho:¬OkX l cap:=fun q=>hc (by rw[(Ro l cap).2 q]);rw[al.resolve_left (fun q=>hc (by rw[q]))];refine(O 6∘BF) ?_;grind
 .have ho:OkX l cap:=(Ro l cap).1 X;have bb:=ho.room;refine(O 13∘Zc (nZ l hl A c B w1 (hs.a D))) ?_;rintro v2 w2⟨⟨l',d,E,W⟩,T⟩;refine(O 1) ?_;refine OW.val Z Z (by first|exact EX.maxN (b:=30) Z Z|exact cW Z Z)<|(O 1) ?_;have t:=d.length_eq;have a:=Ads ((SP d).2 ho) E;have I:Bn w2 w1.heap.size 121 2 v2 (Alz l') (Ei l'):=by rw[t];exact W
  rw[<-t]at hl;obtain⟨L,hL⟩:∃L,L=l'++[(max cap 30,(0:H))]:=⟨_,Z⟩;have a9:Alz L=Alz l'+1:=by rw[hL,Bx];rfl
  refine(Kx T I) ?_;rintro _ v3 N S C bh;have y:Bn N w1.heap.size 121 2 v3 (Alz L) (Ei L):=by(rw[a9,hL,PG];exact S)
  obtain⟨A3,c3,rfl,_,a1⟩:=y.slice;refine(O 4) ?_;have bf:=UX L 30;have a8:∀i,i<=Alz l'->L.take i=l'.take i:=fun i hi=>by grind
  have a7:∀i (h:i<Alz L),L[i].1<=max cap 30/\30<=L[i].1/\0<=L[i].2/\L[i].1+L[i].2<=max cap 30:=fun i h=>by
   by_cases q:i<Alz l'
   .have e:L[i]=l'[i]:=by simp only[hL];exact WO q
    have m:=BL q;have h1:=a.G _ m;have h2:=a.high _ m;have h3:=a.one _ m;simp_all;omega
   .simp_all;omega
  have ai:∀i,i<=Alz L->30<=Lw 30 (L.take i)/\Lw 30 (L.take i)<=max cap 30:=fun i hi=>by
   by_cases q:i<=Alz l'
   .rw[a8 i q];exact fm (Int.le_refl _) X (a.take i)
   .obtain rfl:i=Alz l'+1:=X;rw[Dh X,hL,YA];omega
  refine Lo (fun((i,at_,P,wr):Y×H×Ah×Ad)=>(i<=Alz L/\at_=Lw 30 (L.take i)/\Bn wr N.heap.size 121 2 P (Alz (FL 30 (L.take i))) (Ei (FL 30 (L.take i)))/\Be N wr,[(7,P),(8,Bb (at_:H)),(23,.slice A3 (Alz L) c3),(24,Bb ((Alz L:Y):H)),(25,Bb i)],wr,Alz L-i)) (0,30,(.slice Aa 0 0),N) ?_ ?_
  .exact⟨BC _,Z,Bn.nil _ _ _ _,Be.refl _⟩
  .rintro⟨i,at_,P,wr⟩⟨hi,aj,g,V⟩;have a5:=ai i hi;rw[<-aj]at a5;refine(O 5)<|Zi (fun j=>?_) fun j=>?_
   .obtain⟨b,o,rfl,_,n⟩:=(a1.a V).flat (l:=L) (i:=i) (c:=2) (fun _=>rfl) Bc j;have G:L.take (i+1)=L.take i++[L[i]]:=(CX j).symm;have f:=js L[i] (L.take i) 30;have af:=YA L[i] (L.take i) 30;rw[<-G,<-aj]at f;rw[<-G]at af;have a0:=a7 i j;generalize L[i]=x at n G f af a0;have ab:=UX (L.take i) 30;rw[BW]at ab;refine(O 6∘Zv (Dj (xcells x) n)∘Zn) ?_;rintro xb w4 ba a6 r;refine(Zs a6 (hlt:=Bq _)) ?_;rintro w5 p a2;refine(O 5) ?_;replace p:Bk w5 xb 121 (xcells x):=p;have x5:Be wr w5:=Bp r a2 r.size (fun k hk=>by grind);refine(O 4) ?_;have z1:=T.size;have z3:=C.size;have z:=V.size;refine Lc (fun((vq,K):Ah×Ad)=>(Bn K N.heap.size 121 2 vq (Alz (FL 30 (L.take (i+1)))) (Ei (FL 30 (L.take (i+1))))/\Be N K/\Bk K xb 121 (xcells x),[(7,vq),(10,.pointer (J ⟨xb,0,Aa⟩)),(23,.slice (J ⟨b,o,Aa⟩) (Alz L) c3),(24,Bb ((Alz L:Y):H)),(25,Bb i)],K)) ?_ ?_
    .refine Zi (fun a3=>?_) fun a3=>?_
     .rw[Aj (show at_<x.1 by omega)]at f;refine(O 8∘Kx (V.trans x5) (g.a x5)) ?_;rintro _ v6 w6 Q ao a4;refine(O 2∘Lm (v6,w6)) ?_;refine⟨?_,ao,p.grown a4 fun e=>by have:=(g.lt _ e.symm).2;omega⟩;rw[f,Bx,PG];exact Q
     .rw[Ag (show ¬at_<x.1 by omega),List.append_nil]at f;refine(O 1∘Lm (P,w5)) ?_;rw[f];exact⟨g.a x5,V.trans x5,p⟩
    .rintro⟨vq,K⟩⟨bd,bc,bi⟩;refine(O 13)<|Lb ((i+1),(x.1+x.2),vq,K) ?_;grind
   .obtain rfl:i=Alz L:=X;rw[Dh (Bq _)]at g;refine(O 7∘BF) ?_;refine⟨⟨P,0,Z,.inr ⟨ho,Z,l',d,a,by rw[<-hL];exact Bn.l g (by have:=D.size;have:=C.size;omega)⟩⟩,D.trans (C.trans V)⟩
def Agn(l:Ae Xt)(hl:Alz l<=1000000)(cap a:H)(A:Av AB)(c B:Y)(w:Ad)(hs:Sl w B A (Ei l)):
 Bm eD 59 [.slice A (Alz l) c,Bb cap,Bb a] w fun v w'=>(∃(s:H) (e:Y),v=.tuple #[Bb s,Bb (e:H)]/\(e=0/\OkX l cap/\1<=a/\IQ l cap a s∨e=(if a<1 then 2 else 220)/\s=0/\(1<=a->OkX l cap->∀s',¬Jz 30 (max cap 30) a l s')))/\Be w w':=by
 refine Bw func59 Z ntmps59 (by rfl) Z ?_;refine(O 11)<|Zi (fun h1=>?_) fun h1=>?_
 .refine(O 5∘BF) ?_;exact⟨⟨0,2,Z,.inr ⟨(Aj h1).symm,Z,fun h=>by omega⟩⟩,Be.refl _⟩
 .refine(O 5∘Zc (Ago l hl cap A c B w hs)) ?_;rintro _ S⟨⟨u,e,rfl,ab⟩,I⟩;refine(O 12)<|Zi (fun hc=>?_) fun hc=>?_
  .obtain⟨p,he⟩:¬OkX l cap/\e=220:=by
    grind
   refine(O 6∘BF) ?_;grind
  .obtain⟨ho,m,d,K,D⟩:OkX l cap/\∃m:Ae Xt,m.Perm l/\RowX 30 (max cap 30) m/\Bn S w.heap.size 121 2 u (Alz (FL 30 (m++[(max cap 30,0)]))) (Ei (FL 30 (m++[(max cap 30,0)]))):=by
    grind
   have L:=gY (C:=max cap 30) (n:=a) X m 30 X K
   have ai:Alz (FL 30 (m++[(max cap 30,0)]))<=1000001:=by
    have:=UX (m++[(max cap 30,0)]) 30;rw[Bx,d.length_eq,CL]at this;omega
   generalize FL 30 (m++[(max cap 30,0)])=G at D L ai;obtain⟨A1,c1,rfl,_,V⟩:=D.slice;obtain⟨f1,f2⟩:=L;refine(O 9)<|Lo (fun((i,wr):Y×Ad)=>(i<=Alz G/\(∀y∈G.take i,¬a<=y.2)/\Be S wr,[(2,Bb a),(23,.slice A1 (Alz G) c1),(24,Bb ((Alz G:Y):H)),(25,Bb i)],wr,Alz G-i)) (0,S) ?_ ?_
   .exact⟨BC _,(fun y E=>by grind),Be.refl _⟩
   .rintro⟨i,wr⟩⟨hi,p,P⟩;refine(O 5)<|Zi (fun f=>?_) fun f=>?_
    .obtain⟨b,o,rfl,_,j⟩:=(V.a P).flat (l:=G) (i:=i) (c:=2) (fun _=>rfl) Bc f;have T:G.take (i+1)=G.take i++[G[i]]:=(CX f).symm;have r:G=G.take i++G[i]::G.drop (i+1):=by rw[<-DD f,Hx]
     generalize G[i]=x at j T r;refine(O 6∘Zv (Dj (xcells x) j)∘Zn) ?_;rintro xb w4 aj af q;refine(Zs af (hlt:=Bq _)) ?_;rintro Q N W;refine(O 4) ?_;replace N:Bk Q xb 121 (xcells x):=N;have x5:Be wr Q:=Bp q W q.size (fun k hk=>by grind);refine(O 4)<|Zi (fun hn=>?_) fun hn=>?_
     .have hf:G.find? (fun g=>decide (a<=g.2))=J x:=by
       rw[r,List.find?_append,List.find?_eq_none.2 (fun y E=>by simpa using p y E),List.find?_cons_of_pos (by simpa using hn)];rfl
      obtain⟨g1,g2⟩:=f1 x hf;refine(O 7∘BF) ?_;exact⟨⟨x.1,0,Z,.inl ⟨Z,ho,X,(Jz.perm d).1 g1,fun s' t=>g2 s' ((Jz.perm d).2 t)⟩⟩,(I.trans P).trans x5⟩
     .refine(O 6)<|Lb ((i+1),Q) ?_;refine⟨f,fun y E=>?_,P.trans x5⟩;grind
    .refine(O 6∘BF) ?_;obtain rfl:i=Alz G:=X;rw[Dh (Bq _)]at p;have hf:G.find? (fun g=>decide (a<=g.2))=Aa:=List.find?_eq_none.2 fun y E=>by simpa using p y E
     exact⟨⟨0,220,Z,.inr ⟨(Ag h1).symm,Z,fun _ _ s' t=>f2 hf s' ((Jz.perm d).2 t)⟩⟩,I.trans P⟩
def Agm(l:Ae Xt)(hl:Alz l<=1000000)(A:Av AB)(c B:Y)(w:Ad)(E:Sl w B A (Ei l)):
 Bm eD 69 [.slice A (Alz l) c] w fun v w'=>v=Bb (if OkX l 4096 then JP l else 30)/\Be w w':=by
 refine Bw func69 Z ntmps69 (by rfl) Z ?_;refine(O 12∘Zc (Tk l hl 4096 A c B w E)) ?_;rintro _ D⟨rfl,g⟩;refine(O 2)<|Zi (fun K=>?_) fun K=>?_
 .have p:¬OkX l 4096:=fun q=>K (by rw[(Ro l 4096).2 q]);refine(O 5∘Bu) ?_;grind
 .have p:OkX l 4096:=(Ro l 4096).1 X;rw[Aj p];have Q:∀i,30<=JP (l.take i)/\JP (l.take i)<=4096:=fun i=>⟨(YB _).1,gL Bc fun x h=>by have:=p.fit x (Kn h);unfold HT at this;omega⟩;have P:=KE (cells:=xcells) (k:=2) (fun _=>rfl) l;refine(O 9)<|Lo (fun((i,z,wr):Y×H×Ad)=>(i<=Alz l/\z=JP (l.take i)/\Be D wr,[(3,Bb (z:H)),(10,.slice A (Alz l) c),(11,Bb ((Alz l:Y):H)),(12,Bb i)],wr,Alz l-i)) (0,30,D) ?_ ?_
  .exact⟨BC _,Z,Be.refl _⟩
  .rintro⟨i,z,wr⟩⟨V,n,h⟩;have y:=Q i;rw[<-n]at y;refine(O 5)<|Zi (fun a=>?_) fun a=>?_
   .obtain⟨b,o,rfl,_,d⟩:=((E.a g).a h).flat (l:=l) (i:=i) (c:=2) (fun _=>rfl) Bc a;have j:l.take (i+1)=l.take i++[l[i]]:=(CX a).symm;have I:=p.fit _ (BL a);have f:=vi (l.take i) l[i];rw[<-j,<-n]at f;generalize l[i]=x at d j I f;unfold HT at I;refine(O 6∘Zv (Dj (xcells x) d)∘Zn) ?_;rintro L S G C e;refine(Zs C (hlt:=Bq _)) ?_;rintro r m t;refine(O 4) ?_;replace m:Bk r L 121 (xcells x):=m;have N:Be wr r:=Bp e t e.size (fun k T=>by grind);refine(O 4) ?_;refine OW.val Z Z (by first|exact EX.maxN Z Z|exact cW Z Z)<|(O 7)<|Lb ((i+1),(max z (x.1+x.2)),r) ?_;exact⟨a,f.symm,h.trans N⟩
   .obtain rfl:i=Alz l:=X;rw[Dh (Bq _)]at n;refine(O 6∘Bu) ?_;rw[n];exact⟨Z,g.trans h⟩
noncomputable def Ey(l:Ae Xt)(cap n:H):H×Y:=open Classical in
 if h:1<=n/\OkX l cap/\∃s,IQ l cap n s then(h.2.2.choose,0)else(0,if n<1 then 2 else 220)
def YK{l:Ae Xt}{cap n:H}(h:(Ey l cap n).2=0):1<=n/\OkX l cap/\IQ l cap n (Ey l cap n).1:=by
 unfold Ey at h ⊢;split at h
 .grind
 .grind
def ja{l:Ae Xt}{cap n s t:H}(h1:IQ l cap n s)(h2:IQ l cap n t):s=t:=by
 have a:=h1.2 t h2.1;have b:=h2.2 s h1.1;omega
def gZ(l:Ae Xt)(hl:Alz l<=1000000)(cap d:H)(A:Av AB)(c B:Y)(w:Ad)(f:Sl w B A (Ei l)):
 Bm eD 59 [.slice A (Alz l) c,Bb cap,Bb d] w fun v w'=>v=.tuple #[Bb (Ey l cap d).1,Bb (((Ey l cap d).2:Y):H)]/\Be w w':=by
 refine(Agn l hl cap d A c B w f).mono fun v w'⟨⟨s,e,j,n⟩,i⟩=>⟨?_,i⟩;rcases n with⟨rfl,k,m,h⟩|⟨o,rfl,g⟩
 .have q:1<=d/\OkX l cap/\∃s,IQ l cap d s:=⟨m,k,s,h⟩;have e:Ey l cap d=(q.2.2.choose,0):=AQ q;rw[e,j,ja h q.2.2.choose_spec]
 .have q:¬(1<=d/\OkX l cap/\∃s,IQ l cap d s):=fun⟨a,b,s,f⟩=>g a b s f.1;have p:Ey l cap d=(0,if d<1 then 2 else 220):=dif_neg q;grind
end
namespace Cat
open Pth Rec Srt
def IE(s:Bg)(i:Y):Bg:=(s.drop (486*i)).take 486
def az(s:Bg)(i:Y):Alz (IE s i)<=486:=by unfold IE;grind
def Jp(gen:H)(s:Bg)(i:Y):Bg:=text 4 gen.toNat i (IE s i)
def EM(gen:H)(s:Bg):Cl:=(BE 5).map (Jp gen s)
def IG(gen:H)(s:Bg):Alz (EM gen s)=5:=by rfl
def aX(gen:H)(s:Bg){i:Y}(h:i<5):(EM gen s)[i]? =J (Jp gen s i):=by simp[EM,h]
structure OkE(gen:H)(l:Ae M):Prop where
 G:0<=gen
 high:gen<=4611686018427387904
 chk:OkC l 4096
noncomputable def Eo(gen:H)(l:Ae M):Cl×Y:=open Classical in if OkE gen l then(EM gen (Cf l),0)else([],230)
def Sx{gen:H}{l:Ae M}(h:OkE gen l):Eo gen l=(EM gen (Cf l),0):=by unfold Eo;grind
def Yy{gen:H}{l:Ae M}(h:¬OkE gen l):Eo gen l=([],230):=by unfold Eo;grind
def UP(gen:H)(l:Ae M):(OkE gen l/\Eo gen l=(EM gen (Cf l),0))∨Eo gen l=([],230):=by
 rcases NX (OkE gen l)with h|h
 .exact .inl ⟨h,Sx h⟩
 .exact .inr (Yy h)
def lH{gen:H}{l:Ae M}(h:OkE gen l):Alz (Cf l)<=2096:=by
 have a:=Xs l h.chk.may;have:=h.chk.len;omega
def gI{gen:H}(h0:0<=gen)(h1:gen<=4611686018427387904)(s:Bg){i:Y}(hi:i<5):Fa 4 gen i (IE s i)=(Jp gen s i,0):=by
 have a:¬bad 4 gen i (IE s i):=by
  unfold bad;have:=az s i;omega
 unfold Fa;rw[Ag a];rfl
def Yh{gen:H}(h0:0<=gen)(h1:gen<=4611686018427387904)(s:Bg){i:Y}(hi:i<5):Cu (Jp gen s i)=(⟨4,gen,i,IE s i⟩,0):=Nn Bh (gI h0 h1 s hi)
def EH(ss:Cl):Bg:=ss.flatMap fun s=>(Cu s).1.data
def ut(ss:Cl)(s:Bg):EH (ss++[s])=EH ss++(Cu s).1.data:=by simp[EH]
def Ef(ss:Cl):H:=(Cu (ss.getD 0 [])).1.gen
def Gt(ss:Cl):Ae M×Y:=EA (Alz (EH ss)+1) (EH ss) []
structure OkD(ss:Cl):Prop where
 mem:(Gt ss).2=0
 enc:Eo (Ef ss) (Gt ss).1=(ss,0)
noncomputable def CC(ss:Cl):H×Ae M×Y:=open Classical in if OkD ss then(Ef ss,(Gt ss).1,0)else(0,[],230)
def Qu{ss:Cl}(h:OkD ss):CC ss=(Ef ss,(Gt ss).1,0):=by unfold CC;grind
def Sv{ss:Cl}(h:¬OkD ss):CC ss=(0,[],230):=by unfold CC;grind
def Sz{gen:H}{l:Ae M}{ss:Cl}(h:Eo gen l=(ss,0)):OkE gen l/\ss=EM gen (Cf l):=by
 rcases UP gen l with⟨d,a⟩|a
 .grind
 .grind
def UQ{gen:H}{l:Ae M}{ss:Cl}(h:Eo gen l=(ss,0)){i:Y}(hi:i<Alz ss):Alz ss=5/\Cu ss[i]=(⟨4,gen,i,IE (Cf l) i⟩,0):=by
 obtain⟨d,rfl⟩:=Sz h;have a:=aX gen (Cf l) hi
 have e:=by
  rw[BQ (by rwa[IG])]at a;injection a
 exact⟨IG _ _,e▸Yh d.G d.high _ hi⟩
def enc_len{gen:H}{l:Ae M}{ss:Cl}(h:Eo gen l=(ss,0)):Alz ss=5:=by
 obtain⟨_,rfl⟩:=Sz h;rfl
def vg{gen:H}{l:Ae M}{ss:Cl}(h:Eo gen l=(ss,0)):Ef ss=gen:=by
 have d:=enc_len h;have a:0<Alz ss:=X;have:=(UQ h a).2;unfold Ef;grind
def lV(s:Bg):∀n,(BE n).flatMap (IE s)=s.take (486*n)
 |0=>by simp
 |n+1=>by
  rw[FT,IT,lV];unfold IE;grind
def ur{gen:H}{l:Ae M}{ss:Cl}(h:Eo gen l=(ss,0)):EH ss=Cf l:=by
 obtain⟨a,rfl⟩:=Sz h;have d:=lH a
 have e:EH (EM gen (Cf l))=(BE 5).flatMap (IE (Cf l)):=by
  unfold EH EM;rw[List.flatMap_map];rw[IU,IU];congr 1;apply Kl;intro i f;rw[Yh a.G a.high _ Bf]
 rw[e,lV,Dh X]
def ux{gen:H}{l:Ae M}{ss:Cl}(d:∀m∈l,m.sum<=4294967295)(h:Eo gen l=(ss,0)):CC ss=(gen,l,0):=by
 have g:=(Sz h).1
 have a:Gt ss=(l,0):=by
  unfold Gt;rw[ur h];have:=ZG l (Alz (Cf l)+1) [] (fun m a=>⟨g.chk.may m a,d m a⟩) X;simpa using this
 have e:=vg h;have f:OkD ss:=⟨Bf,Bf⟩;rw[Qu f,a,e]
def ad{ss:Cl}(h:OkD ss){i:Y}(hi:i<Alz ss):Alz ss=5/\(Cu ss[i]).2=0/\(Cu ss[i]).1.kind=4/\(Cu ss[i]).1.gen=Ef ss/\(Cu ss[i]).1.index=i:=by
 obtain⟨d,a⟩:=UQ h.enc hi;grind
def zY{ss:Cl}(h:OkD ss):Alz ss=5:=enc_len h.enc
end Cat
section
open Pth Rec Srt Cat
def yR(m:M):Ep m≠[]:=fun e=>by
 have:=AF DQ e;rw[Vi]at this;grind
def ve{gen:H}{l:Ae M}(h:gen<0∨4611686018427387904<gen∨Lp l 4096≠0):Eo gen l=([],230):=Yy fun q=>by
 have h1:=q.G;have h2:=q.high;have h3:=Si q.chk;omega
def zZ{gen:H}{l:Ae M}(h1:¬gen<0)(h2:¬4611686018427387904<gen)(a:Lp l 4096=0):OkE gen l:=by
 refine⟨X,X,IM fun q=>?_⟩;rw[OB q]at a;omega
def MD(gen:H)(s:Bg)(i:Y):Bl:=(BE 5).map fun j=>if j<i then str (Jp gen s j)else str []
def an(gen:H)(s:Bg)(i:Y):Alz (MD gen s i)=5:=by rfl
def Aal(gen:H)(s:Bg){i:Y}(hi:i<5):(MD gen s i).set i (str (Jp gen s i))=MD gen s (i+1):=by
 apply He;intro j;rw[RQ,an];by_cases a:j<5
 .by_cases e:i=j
  .subst e;rw[Aj Z,Aj hi];simp[MD,hi]
  .rw[Ag e];simp only[MD,DV,MY a,FU];grind
 .rw[IV (by rw[an];omega)];by_cases e:i=j
  .omega
  .rw[Ag e,IV (by rw[an];omega)]
def Aak(gen:H)(s:Bg):MD gen s 5=Da (EM gen s):=by
 rfl
def gJ(gen:H)(l:Ae M)(Q:∀m∈l,m.q)(hl:Alz l<=140737488355328)(A:Av AB)(c B:Y)(w:Ad)(hG:DE w)(hs:Sl w B A (Dz l)):
 Bm eD 82 [Bb gen,.slice A (Alz l) c] w fun v w'=>(∃u,v=.tuple #[u,Bb (((Eo gen l).2:Y):H)]/\Bn w' w.heap.size 9 1 u (Alz (Eo gen l).1) (Da (Eo gen l).1))/\Be w w':=by
 have bad:(gen<0∨4611686018427387904<gen∨Lp l 4096≠0)->∀w',Be w w'->(∃u,(Value.tuple #[.slice Aa 0 0,Bb 230])=.tuple #[u,Bb (((Eo gen l).2:Y):H)]/\Bn w' w.heap.size 9 1 u (Alz (Eo gen l).1) (Da (Eo gen l).1))/\Be w w':=fun h w' g=>by
  rw[ve h];exact⟨⟨_,Z,Bn.nil _ _ _ _⟩,g⟩
 refine Bw func82 Z ntmps82 (by rfl) Z ?_;refine(O 11)<|Zd 17 (fun h1=>?_) fun h1=>?_
 .refine(O 15∘BF) ?_;exact bad (.inl h1) w (Be.refl _)
 .refine(O 4)<|Zd 21 (fun h2=>?_) fun h2=>?_
  .refine(O 11∘BF) ?_;exact bad (.inr (.inl h2)) w (Be.refl _)
  .refine(O 1∘Zc (UF l Q hl 4096 A c B w hG hs)) ?_;rintro _ w1⟨rfl,L⟩;refine(O 3)<|Zi (fun h3=>?_) fun h3=>?_
   .refine(O 5∘BF) ?_;grind
   .have E:OkE gen l:=zZ h1 h2 (Decidable.byContradiction fun q=>h3 X);have ai:=lH E;have x:=E.chk.may;have bc:=E.chk.len
    have j:∀i,Alz (Cf (l.take i))<=2096:=fun i=>by
     have h4:=Xs (l.take i) (fun m hm=>x m (Kn hm));grind
    rw[Sx E];refine(O 3∘Zn) ?_;rintro G w2 a9 a6 al;refine(O 8) ?_;have af:=Bd.new (B:=w.heap.size) (by have:=L.size;omega) a6;have x2:=L.trans al;refine Lc (fun(wr:Ad)=>(Bd wr w.heap.size G (Cf l)/\Be w wr,[(0,Bb gen),(6,.pointer (J ⟨G,0,Aa⟩))],wr)) ?_ ?_
    .refine(O 1)<|Lo (fun((i,wr):Y×Ad)=>(i<=Alz l/\Bd wr w.heap.size G (Cf (l.take i))/\Be w wr,[(0,Bb gen),(6,.pointer (J ⟨G,0,Aa⟩)),(26,.slice A (Alz l) c),(27,Bb ((Alz l:Y):H)),(28,Bb i)],wr,Alz l-i)) (0,w2) ?_ ?_
     .exact⟨BC _,af,x2⟩
     .rintro⟨i,wr⟩⟨hi,p,g⟩;have ba:=j i;have ao:=j (i+1);refine(O 5)<|Zi (fun a=>?_) fun a=>?_
      .obtain⟨b,o,rfl,_,n⟩:=(hs.a g).flat (i:=i) (c:=5) (fun _=>rfl) Bc a;have N:l.take (i+1)=l.take i++[l[i]]:=(CX a).symm;have S:=Q l[i] (BL a);have a1:=x l[i] (BL a);generalize l[i]=m at n N S a1;have V:Cf (l.take (i+1))=Cf (l.take i)++Ep m:=by rw[N,rY]
       rw[V,Bx]at ao;refine(O 6∘Zv (Dj m.cells n)∘Zn) ?_;rintro mb w3 a8 a5 K;refine(Zs a5 (hlt:=Bq _)) ?_;rintro D f a3;refine(O 3) ?_;replace f:Bk D mb 60 m.cells:=f;have x4:Be wr D:=Bp K a3 K.size (fun k hk=>by simp at hk;omega);have cm:=kR m S D;rw[show Ny m=(Ep m,0) by unfold Ny;grind]at cm;simp only at cm;refine(Zv (BX f)∘Zc cm) ?_;rintro _ w5⟨rfl,d⟩;refine(O 8) ?_;have x5:=(g.trans x4).trans d;refine(Zc (pI w.heap.size G (Cf (l.take i)) (Ep m) w5 ((p.a x4).a d) (yR m) X x5.size)) ?_;rintro _ w6⟨⟨q,rfl⟩,y,W⟩;refine(O 6) ?_;rw[<-V]at y;refine Lb ((i+1),w6) ?_;exact⟨X,y,Below.trans x5 W⟩
      .obtain rfl:i=Alz l:=X;rw[DY]at p;refine(O 1∘Lm wr) ?_;grind
    .rintro wr⟨p,g⟩;refine(O 2∘Zc (UA w.heap.size G (Cf l) wr p X g.size)) ?_;rintro _ w3⟨rfl,ab⟩;refine(O 4) ?_;have x3:Be w w3:=Below.trans g ab;generalize Cf l=s at ai;refine Xh (len:=5) Z Z iZ Ii Z Z Z X X ?_;rintro I D a7 f aj;refine(O 8) ?_;have x4:=x3.trans aj;replace f:Bk D I 9 (MD gen s 0):=f;have a0:w.heap.size<=I:=by have:=x3.size;omega
     refine Lo (fun((i,wr):Y×Ad)=>(i<=5/\Bk wr I 9 (MD gen s i)/\Be w wr,[(0,Bb gen),(11,str ((s.drop (486*i)))),(12,.slice (J ⟨I,0,Aa⟩) 5 5),(42,Bb i)],wr,5-i)) (0,D) ?_ ?_
     .grind
     .rintro⟨i,wr⟩⟨hi,C,g⟩;refine(O 5)<|Zi (fun a=>?_) fun a=>?_
      .have ce:=fun w=>US 4 Bc gen i (IE s i) (by have:=az s i;omega) w;rw[gI E.G E.high s a]at ce;simp only at ce;have a4:Alz (s.drop (486*i))=Alz s-486*i:=CA
       have P:(s.drop (486*i)).take (min (Alz (s.drop (486*i))) 486)=IE s i:=by
        unfold IE;rcases Ug (Alz (s.drop (486*i))) 486 with q|q
        .grind
        .grind
       have T:(s.drop (486*i)).drop (min (Alz (s.drop (486*i))) 486)=s.drop (486*(i+1)):=by
        rcases Ug (Alz (s.drop (486*i))) 486 with q|q
        .simp;omega
        .simp;omega
       generalize hq:s.drop (486*i)=t at a4 P T;refine(O 23∘Zv (by exact Kf eT Z Z X)) ?_;refine OW.as 55 (str ((IE s i))) Z (AF str P)<|(Zc (ce wr)) ?_;rintro _ w5⟨rfl,d⟩;refine(O 4∘Zt (C.a d) (hlt:=by assumption)) ?_;rintro w6 r a2;refine(O 4∘Zv (by exact LR eT Z Z X)∘O 7) ?_;replace r:Bk w6 I 9 ((MD gen s i).set i (str (Jp gen s i))):=r;rw[Aal gen s a]at r;refine(Ct 11 (str ((s.drop (486*(i+1))))) (e:=by exact AF str T))<|Lb ((i+1),w6) ?_;exact⟨X,r,Bp (g.trans d) a2 (g.trans d).size (fun k hk=>by simp at hk;omega)⟩
      .obtain rfl:i=5:=X;rw[Aak]at C;refine(O 7∘BF) ?_;refine⟨⟨_,Z,?_⟩,g⟩;rw[IG];exact Bn.Akk (cap:=5) C a0 (by rfl) Bc
def yM(s:Bg):(Je s).sum<=4294967295:=Vm _ 4 (Bq _)
def kM:∀(f:Y) (s:Bg) (out:Ae M),(∀m∈out,Ds m/\m.sum<=4294967295)->∀m∈(EA f s out).1,Ds m/\m.sum<=4294967295
 |0,s,out,h,m,hm=>h m hm
 |f+1,s,out,h,m,hm=>by
  rw[EA]at hm;split at hm
  .grind
  .split at hm
   .cases hm
   .split at hm
    .rename_i hmay;refine kM f _ _ (fun x hx=>?_) m hm;rcases CW.1 hx with hx|hx
     .grind
     .simp only[Cp]at hx;subst hx;exact⟨hmay,yM s⟩
    .cases hm
def ZH:∀(f:Y) (s:Bg) (out:Ae M),Alz (EA f s out).1<=Alz out+f
 |0,s,out=>by simp[EA]
 |f+1,s,out=>by
  rw[EA];split
  .simp
  .split
   .simp
   .split
    .have:=ZH f (s.drop (11+first s)) (out++[Je s]);grind
    .simp
def YJ{m:M}(h:Ds m/\m.sum<=4294967295):m.q:=⟨by have:=(JU h.1).1;omega,h.2⟩
def kT(ss:Cl):∀m∈(Gt ss).1,m.q:=fun m a=>YJ (kM _ _ [] Bh m a)
def gh(s:Bg):(Cu s).1.data.length<=486:=by
 unfold Cu;split
 .rename_i h;show Alz ((s.drop 19).take (nb ((s.drop 17).take 2)))<=486;grind
 .show Alz ([]:Bg)<=486;simp
def XY(ss:Cl):Alz (EH ss)<=486*Alz ss:=by
 induction ss with
 |nil=>simp[EH]
 |cons s ss ih=>
  have a:=gh s;have e:EH (s::ss)=(Cu s).1.data++EH ss:=by simp[EH]
  grind
def jc{l:Cl}(h:Alz l=5):∃s0 s1 s2 s3 s4,l=[s0,s1,s2,s3,s4]:=by
 match l,h with
 |[a,b,c,d,e],_=>simp
def Wf{w:Ad}{B:Y}{A:Av AB}{l:Cl}(h:Sl w B A (Da l)){i:Y}(hi:i<Alz l):∃b o,A=J ⟨b,o,Aa⟩/\b<B/\w.cell? ⟨b,o+i,Aa⟩=J (str l[i]):=by
 obtain⟨b,o,e,d,a⟩:=h.at_ (by rw[Ais];omega);exact⟨b,o,e,d,a i _ (Tv hi)⟩
def uM(ss:Cl)(hl:Alz ss<=140737488355328)(A:Av AB)(c B:Y)(w:Ad)(hG:DE w)(hs:Sl w B A (Da ss)):
 Bm eD 75 [.slice A (Alz ss) c] w fun v w'=>(∃u,v=.tuple #[Bb (CC ss).1,u,Bb (((CC ss).2.2:Y):H)]/\Bn w' w.heap.size 60 5 u (Alz (CC ss).2.1) (Dz (CC ss).2.1))/\Be w w':=by
 have bad:¬OkD ss->∀w',Be w w'->(∃u,(Value.tuple #[Bb 0,.slice Aa 0 0,Bb 230])=.tuple #[Bb (CC ss).1,u,Bb (((CC ss).2.2:Y):H)]/\Bn w' w.heap.size 60 5 u (Alz (CC ss).2.1) (Dz (CC ss).2.1))/\Be w w':=fun h w' n=>by
  rw[Sv h];exact⟨⟨_,Z,Bn.nil _ _ _ _⟩,n⟩
 refine Bw func75 Z ntmps75 Bi Z ?_;refine(O 13)<|Zi (fun P=>?_) fun P=>?_
 .refine(O 6∘Cy) ?_;exact bad (fun h=>P (by have:=zY h;omega)) w (Be.refl _)
 .have h5:Alz ss=5:=X;have a7:=XY ss;refine(O 14)<|Lo (fun((i,g,wr):Y×H×Ad)=>(i<=Alz ss/\(0<i->g=Ef ss)/\Be w wr,[(0,.slice A (Alz ss) c),(5,Bb g),(6,str ((EH (ss.take i)))),(17,.slice A (Alz ss) c),(18,Bb ((Alz ss:Y):H)),(19,Bb i)],wr,Alz ss-i)) (0,0,w) ?_ ?_
  .exact⟨BC _,fun h=>by omega,Be.refl _⟩
  .rintro⟨i,g,wr⟩⟨hi,hg,n⟩;refine(O 5)<|Zi (fun j=>?_) fun j=>?_
   .obtain⟨b,o,rfl,_,m⟩:=Wf (hs.a n) j;have G:ss.take (i+1)=ss.take i++[ss[i]]:=(CX j).symm;have D:=fun h:OkD ss=>ad h j;have T:i=0->Ef ss=(Cu ss[i]).1.gen:=fun h=>by subst h;unfold Ef;grind
    generalize ss[i]=s at m G D T;have a1:=gh s;have a0:=XY (ss.take i);rw[BW]at a0;have cd:=fun w=>gx s w;have W:EH (ss.take (i+1))=EH (ss.take i)++(Cu s).1.data:=by rw[G,ut]
    generalize(Cu s).1=x at cd D T a1 W;generalize(Cu s).2=e at cd D;refine(O 7∘Zv (BR m)∘O 6∘Zc (cd wr)) ?_;rintro _ w1⟨rfl,a⟩;refine(O 3∘Zn) ?_;rintro xb w2 a5 a4 d;refine(Zs a4 (hlt:=Bq _)) ?_;rintro E ab al;refine(O 8) ?_;replace ab:Bk E xb 144 x.cells:=ab;have x3:Be wr E:=Bp (a.trans d) al (a.trans d).size (fun k hk=>by simp at hk;have:=a.size;omega);refine Lc (fun(g2:H)=>((g2=Ef ss/\(0<i->g=g2)),[(0,.slice (J ⟨b,o,Aa⟩) (Alz ss) c),(5,Bb g2),(6,str ((EH (ss.take i)))),(7,Bb i),(9,.pointer (J ⟨xb,0,Aa⟩)),(10,Bb e),(17,.slice (J ⟨b,o,Aa⟩) (Alz ss) c),(18,Bb ((Alz ss:Y):H)),(19,Bb i)],E)) ?_ ?_
    .refine Zi (fun h0=>?_) fun h0=>?_
     .refine(O 5∘Lm x.gen) ?_;omega
     .refine(O 1∘Lm g) ?_;omega
    .rintro g2⟨rfl,a6⟩;refine(O 2)<|Lc (fun(_u:Unit)=>(True,[(0,.slice (J ⟨b,o,Aa⟩) (Alz ss) c),(5,Bb (Ef ss)),(6,str ((EH (ss.take i)))),(9,.pointer (J ⟨xb,0,Aa⟩)),(17,.slice (J ⟨b,o,Aa⟩) (Alz ss) c),(18,Bb ((Alz ss:Y):H)),(19,Bb i),(51,.bool (decide ((e≠0∨x.kind≠4∨x.gen≠Ef ss∨x.index≠i))))],E)) ?_ ?_
     .refine(O 4)<|Zd 35 (fun q1=>?_) fun q1=>?_
      .refine(O 17∘Ct 51 (.bool (decide ((e≠0∨x.kind≠4∨x.gen≠Ef ss∨x.index≠i)))) (e:=by exact AF Value.bool (AM (.inl q1)).symm)∘Lm ()) ?_;trivial
      .refine(O 5)<|Zd 40 (fun q2=>?_) fun q2=>?_
       .refine(O 12∘Ct 51 (.bool (decide ((e≠0∨x.kind≠4∨x.gen≠Ef ss∨x.index≠i)))) (e:=by exact AF Value.bool (AM (.inr (.inl q2))).symm)∘Lm ()) ?_;trivial
       .refine(O 6)<|Zd 46 (fun q3=>?_) fun q3=>?_
        .refine(O 6∘Ct 51 (.bool (decide ((e≠0∨x.kind≠4∨x.gen≠Ef ss∨x.index≠i)))) (e:=by exact AF Value.bool (AM (.inr (.inr (.inl q3)))).symm)∘Lm ()) ?_;trivial
        .refine(O 6∘Ct 51 (.bool (decide ((e≠0∨x.kind≠4∨x.gen≠Ef ss∨x.index≠i)))) (e:=by exact AF Value.bool (decide_eq_decide.2 ⟨fun h=>.inr (.inr (.inr h)),fun h=>h.elim (fun z=>absurd z q1) (fun h=>h.elim (fun z=>absurd z q2) (fun h=>h.elim (fun z=>absurd z q3) id))⟩))∘Lm ()) ?_;trivial
     .rintro _ _;refine Zi (fun hb=>?_) fun hb=>?_
      .refine(O 6∘Cy) ?_;exact bad (fun h=>by grind) E (n.trans x3)
      .refine(O 13∘Ct 6 (str ((EH (ss.take (i+1))))) (e:=by exact AF str W.symm))<|Lb ((i+1),(Ef ss),E) ?_;exact⟨X,fun _=>rfl,n.trans x3⟩
   .obtain rfl:i=Alz ss:=X;obtain rfl:=hg X;have cm:=kS (EH ss) X wr;have ai:=kT ss;have Q:=ZH (Alz (EH ss)+1) (EH ss) [];have aj:EA (Alz (EH ss)+1) (EH ss) []=Gt ss:=rfl;rw[aj]at cm Q;simp only[ET,EE]at Q;rw[DY];refine(O 4∘Zc cm) ?_;rintro _ w1⟨u,rfl,f,a⟩;refine(O 12) ?_;obtain⟨A1,c1,rfl,_,K⟩:=f.slice;refine Zi (fun S=>?_) fun S=>?_
    .refine(O 6∘Cy) ?_;exact bad (fun h=>S (by have:=h.mem;omega)) w1 (n.trans a)
    .have ce:=gJ (Ef ss) (Gt ss).1 ai X A1 c1 _ w1 ((hG.a n).a a) K;refine(O 5∘Zc ce) ?_;rintro _ w2⟨⟨u2,rfl,y⟩,d⟩;refine(O 12) ?_;have x2:=(n.trans a).trans d;obtain⟨A2,c2,rfl,_,r⟩:=y.slice;refine Zi (fun V=>?_) fun V=>?_
     .have t:(Eo (Ef ss) (Gt ss).1).2=230:=by
       rcases UP (Ef ss) (Gt ss).1 with⟨_,q⟩|q
       .grind
       .rw[q]
      refine(O 7) ?_;rw[t];refine(Cy) ?_;exact bad (fun h=>by rw[h.enc]at t;omega) w2 x2
     .have hE:Eo (Ef ss) (Gt ss).1=((Eo (Ef ss) (Gt ss).1).1,0):=by
       rcases UP (Ef ss) (Gt ss).1 with⟨_,q⟩|q
       .rw[q]
       .grind
      have L:=enc_len hE;have p:(Eo (Ef ss) (Gt ss).1).1=ss->OkD ss:=fun q=>⟨X,Bf⟩;have N:(Eo (Ef ss) (Gt ss).1).1≠ss->¬OkD ss:=fun q h=>q (by rw[h.enc]);generalize(Eo (Ef ss) (Gt ss).1).1=os at L p N r;generalize(Eo (Ef ss) (Gt ss).1).2=oe at V;have I:=hs.a x2;obtain⟨s0,s1,s2,s3,s4,rfl⟩:=jc h5;obtain⟨r0,r1,r2,r3,r4,rfl⟩:=jc L;obtain⟨b3,o3,rfl,_,a2⟩:=I.at_ (by simp[Da]);obtain⟨b2,o2,rfl,_,a3⟩:=r.at_ (by simp[Da]);have ao:=(f.a d);refine(O 5∘Zq (by exact fun _=>EX.arrayAt iK Z X)∘Zq (by exact fun _=>KY (w:=w2.drewN _) (l:=[str r0,str r1,str r2,str r3,str r4]) iK Z bM Z Z a3)∘O 1∘Zq (by exact fun _=>EX.arrayAt iK Z X)∘Zq (by exact fun _=>KY (w:=w2.drewN _) (l:=[str s0,str s1,str s2,str s3,str s4]) iK Z bM Z Z a2)∘Zq (by exact fun _=>qh iK eT Ii Bi Z Z)∘QW.nil) fun nq=>Zi (fun C=>?_) fun C=>?_
      .refine(O 6∘Cy) ?_;exact bad (N C) _ (x2.trans (Be.drewN _ _))
      .have af:=p (Decidable.of_not_not C);refine(O 9∘Cy) ?_;rw[Qu af];exact⟨⟨_,Z,(ao.drewN _).l n.size⟩,x2.trans (Be.drewN _ _)⟩
end
namespace Wal
open Rec Pth Dsk
abbrev By:=Bg
structure Nt where
 kind:H
 mem:M
 deriving DecidableEq
def bare(p:By):M:=⟨p,0,0,0,0⟩
def Jf(n:Nt):Av By:=
 if n.kind=1 then(if Ds n.mem then J (Ep n.mem)else Aa)
 else if n.kind=2 then(if Cw n.mem.g=0/\n.mem=bare n.mem.g then J n.mem.g else Aa)
 else Aa
def Ho(n:Nt):By:=(Jf n).getD []
def CJ(n:Nt):Prop:=Jf n≠Aa
instance(n:Nt):Decidable (CJ n):=by unfold CJ;infer_instance
def Gx(gen:Y):Y->Ae Nt->Ae By
 |_,[]=>[]
 |i,n::l=>text n.kind.toNat gen i (Ho n)::Gx gen (i+1) l
def txs(gen at_:Y)(l:Ae Nt):Ae By:=Gx gen at_ l++[text 3 gen (at_+Alz l) [BV (Alz l)]]
def Tb(gen:Y):∀(l:Ae Nt) (i:Y),Alz (Gx gen i l)=Alz l
 |[],_=>rfl
 |n::l,i=>by simp[Gx,Tb]
def mJ(gen:Y)(n:Nt):∀(l:Ae Nt) (i:Y),Gx gen i (l++[n])=Gx gen i l++[text n.kind.toNat gen (i+Alz l) (Ho n)]
 |[],i=>rfl
 |m::l,i=>by
  rw[Gi,Gx,Gx,mJ,Gi,CF,show i+1+Alz l=i+(Alz l+1) by omega]
def writes:Dv->Y->Ae By->Dv×Y
 |D,_,[]=>(D,0)
 |D,i,s::l=>if(D.write i s).2=0 then writes (D.write i s).1 (i+1) l else D.write i s
def Iv(gen at_:H)(n:Y):Prop:=gen<0∨4611686018427387904<gen∨at_<0∨20<at_∨n=0∨20-at_<=n
instance(gen at_:H)(n:Y):Decidable (Iv gen at_ n):=by unfold Iv;infer_instance
def Fw(D:Dv)(gen at_:H)(l:Ae Nt):Dv×H×Y:=
 if Iv gen at_ (Alz l)∨∃n∈l,¬CJ n then(D,0,210)
 else
  let r:=writes D (10+at_.toNat) (txs gen.toNat at_.toNat l)
  if r.2=0 then(if r.1.w.2=0 then(r.1.w.1,at_+Alz l+1,0)else(r.1.w.1,0,r.1.w.2))else(r.1,0,r.2)
def FM(x:R):Av Nt:=
 if x.kind=1 then(if(EA (Alz x.data+1) x.data []).2=0/\Alz (EA (Alz x.data+1) x.data []).1=1 then J ⟨1,(EA (Alz x.data+1) x.data []).1.getD 0 (bare [])⟩else Aa)
 else if x.kind=2 then(if Cw x.data=0 then J ⟨2,bare x.data⟩else Aa)
 else Aa
def sec(s:By)(i:Y):By:=(s.drop (i*512)).take 512
def CK(gen:H)(rd:Y->By)(m:Y):Y->Y->Ae Nt->Ae (Ae Nt)->Y->Ae (Ae Nt)×Y
 |0,_,_,out,b=>(out,b)
 |f+1,i,op,out,b=>
  if i<m then
   let x:=Cu (rd i)
   if x.2≠0∨x.1.gen≠gen∨x.1.index≠i then(out,b)
   else if x.1.kind=3 then(if op=[]∨x.1.data≠[BV (Alz op)]then(out,b)else CK gen rd m f (i+1) [] (out++[op]) (i+1))
   else match FM x.1 with
    |some n=>CK gen rd m f (i+1) (op++[n]) out b
    |none=>(out,b)
  else(out,b)
def Ek(s:By):Y:=min 20 (Alz s/512-10)
def replay(s:By)(gen:H):Ae (Ae Nt)×Y:=CK gen (fun i=>sec s (10+i)) (Ek s) 21 0 [] [] 0
def JI(gen:H):Prop:=gen<0∨4611686018427387904<gen
instance(gen:H):Decidable (JI gen):=by unfold JI;infer_instance
def JX(D:Dv)(gen:H):(Ae (Ae Nt)×Y)×Y:=if JI gen then(([],0),210)else if D.dead then(([],0),190)else(replay D.now gen,0)
def sL{s t:By}{a b n:Y}(ht:Alz t=n)(j:a+n<=Alz s)(h:b+n<=a∨b=a∨a+n<=b):((s.take a++t++s.drop (a+n)).drop b).take n=if b=a then t else(s.drop b).take n:=by
 have i:Alz (s.take a)=a:=by rw[BW];omega
 rcases h with f|f|f
 .by_cases d:b=a
  .have:n=0:=X;subst this;rw[Aj d,Oj,Im ht]
  .rw[Ag d,Cq,TM X,Ua Bf,WK,WW,Hi X]
 .grind
 .have g:Alz (s.take a++t)=a+n:=by rw[Bx,i,ht]
  have e:(s.take a++t++s.drop (a+n)).drop b=s.drop b:=by
   rw[List.drop_append,La X,EW,Gj,g,show a+n+(b-(a+n))=b by omega]
  grind
def Aeq{s t:By}{i j:Y}(h:(i+1)*512<=Alz s)(ht:Alz t=512):sec (s.take (i*512)++t++s.drop (i*512+512)) j=if j=i then t else sec s j:=by
 have e:=sL (s:=s) (a:=i*512) (b:=j*512) ht X X;unfold sec;grind
def Xw(i:Y)(t s:By):(Ch.write i t).ap s=(s++EQ ((i+1)*512-Alz s)).take (i*512)++t++(s++EQ ((i+1)*512-Alz s)).drop (i*512+Alz t):=rfl
def Aer{s t:By}{i j:Y}(hm:Alz s%512=0)(ht:Alz t=512)(d:j=i∨j<Alz s/512):sec ((Ch.write i t).ap s) j=if j=i then t else sec s j:=by
 have a:∀z,sec s j=sec (s++z) j∨¬j<Alz s/512:=fun z=>by
  by_cases h:j<Alz s/512
  .left;unfold sec;grind
  .omega
 have e:=Aeq (s:=s++EQ ((i+1)*512-Alz s)) (i:=i) (j:=j) (by rw[Bx,PH];omega) ht;rw[Xw,ht,e];grind
def Nw{s t:By}{i:Y}(ht:Alz t=512)(hm:Alz s%512=0):Alz ((Ch.write i t).ap s)=max (Alz s) ((i+1)*512):=by
 rw[Xw];simp only[Bx,BW,CA,PH,ht];omega
def XJ{s:By}(h1:Cw s=0):Alz s<=120:=by
 unfold Cw at h1;split at h1
 .rename_i e;unfold GK at e;grind
 .omega
def SL{n:Nt}(h:CJ n):Alz (Ho n)<=131/\(n.kind=1∨n.kind=2):=by
 unfold CJ at h;unfold Ho;unfold Jf at h ⊢;by_cases d:n.kind=1
 .rw[Aj d]at h ⊢;by_cases a:Ds n.mem
  .rw[Aj a];have:=JU a;exact⟨by show Alz (Ep _)<=_;rw[Vi];omega,X⟩
  .rw[Ag a]at h;exact AH Z h
 .rw[Ag d]at h ⊢;by_cases a:n.kind=2
  .by_cases e:Cw n.mem.g=0/\n.mem=bare n.mem.g
   .have:=XJ e.1;grind
   .grind
  .rw[Ag a]at h;exact AH Z h
def zF{n:Nt}(h:CJ n)(o:n.mem.sum<=4294967295)(g i:H):FM ⟨n.kind.toNat,g,i,Ho n⟩=J n:=by
 unfold CJ at h;unfold Ho;unfold Jf at h ⊢;obtain⟨k,m⟩:=n;by_cases j:k=1
 .subst j;by_cases a:Ds m
  .rw[Aj a];have e:=ZG [m] (Alz (Ep m)+1) [] Bf (by simp[Cf]);have l:Cf [m]=Ep m:=by simp[Cf]
   rw[l]at e
   have f:FM ⟨1,g,i,Ep m⟩=J ⟨1,m⟩:=by
    unfold FM;rw[e];rfl
   exact f
  .rw[Ag a]at h;exact AH Z h
 .rw[Ag j]at h ⊢;by_cases a:k=2
  .subst a;by_cases d:Cw m.g=0/\m=bare m.g
   .rw[Aj d]
    have f:FM ⟨2,g,i,m.g⟩=J ⟨2,m⟩:=by
     unfold FM;simp only[if_true];rw[Ag Bh,Aj d.1,<-d.2]
    exact f
   .grind
  .rw[Ag a]at h;exact AH Z h
structure Rd(s:By)(k:Y)(g i:Y)(d:By):Prop where
 eq:Cu s=(⟨k,g,i,d⟩,0)
def aF{k g i:Y}{d:By}(hk:1<=k/\k<=255)(f:g<=4611686018427387904)(hi:i<=2147483647)(h:Alz d<=486):Rd (text k g i d) k g i d:=by
 refine⟨?_⟩;have a:¬bad k g i d:=by unfold bad;omega
 have e:Fa k g i d=(text k g i d,0):=by
  unfold Fa;rw[Ag a];rfl
 exact Nn hk.2 e
section
variable{gen:Y}{rd:Y->By}{m:Y}
def Acg{f i:Y}{op:Ae Nt}{out:Ae (Ae Nt)}{b:Y}{n:Nt}(a:CJ n)(d:n.mem.sum<=4294967295)(e:Rd (rd i) n.kind.toNat gen i (Ho n))(hi:i<m):
 CK gen rd m (f+1) i op out b=CK gen rd m f (i+1) (op++[n]) out b:=by
 have g:=(SL a).2;rw[CK,Aj hi,e.eq];simp only;rw[Ag Bh,Ag X,zF a d]
def Ace{f i:Y}{op:Ae Nt}{out:Ae (Ae Nt)}{b:Y}(d:op≠[])(a:Rd (rd i) 3 gen i [BV (Alz op)])(hi:i<m):
 CK gen rd m (f+1) i op out b=CK gen rd m f (i+1) [] (out++[op]) (i+1):=by
 rw[CK,Aj hi,a.eq];grind
def Good(l:Ae Nt):Prop:=∀n∈l,CJ n/\n.mem.sum<=4294967295
def VF{g:Y}(hg:g<=4611686018427387904):∀(l:Ae Nt) (i:Y),Good l->i+Alz l<=2147483647->∀k (hk:k<Alz l),Rd ((Gx g i l).getD k []) (l[k]).kind.toNat g (i+k) (Ho l[k])
 |[],i,_,_,k,hk=>by grind
 |n::l,i,hl,hi,0,hk=>by
  have h:=SL (hl n Bh).1;exact aF X hg X X
 |n::l,i,hl,hi,k+1,hk=>by
  have h:=VF hg l (i+1) (fun x hx=>hl x Bf) Bf k Bf;rwa[show i+1+k=i+(k+1) by omega]at h
def aL:∀(l:Ae Nt) (f i:Y) (op:Ae Nt) (out:Ae (Ae Nt)) (b:Y),Good l->(∀k (hk:k<Alz l),Rd (rd (i+k)) (l[k]).kind.toNat gen (i+k) (Ho l[k]))->i+Alz l<=m->
 CK gen rd m (f+Alz l) i op out b=CK gen rd m f (i+Alz l) (op++l) out b
 |[],f,i,op,out,b,_,_,_=>by simp
 |n::l,f,i,op,out,b,hl,hr,hm=>by
  simp at hm;have h0:Rd (rd i) n.kind.toNat gen i (Ho n):=hr 0 Bh
  have ih:=aL l f (i+1) (op++[n]) out b (fun x hx=>hl x Bf) (fun k hk=>by
   have:=hr (k+1) Bf;grind) X
  rw[CF,<-Lk,Acg (hl n Bh).1 (hl n Bh).2 h0 X,ih,Cq,show i+1+Alz l=i+(Alz l+1) by omega];rfl
def IJ(g i:Y)(l:Ae Nt):Alz (txs g i l)=Alz l+1:=by simp[txs,Tb]
def bT(g i:Y)(l:Ae Nt){k:Y}(h:k<Alz l):(txs g i l).getD k []=(Gx g i l).getD k []:=by
 unfold txs;simp;rw[FR (by rw[Tb];omega)]
def pm(g i:Y)(l:Ae Nt):(txs g i l).getD (Alz l) []=text 3 g (i+Alz l) [BV (Alz l)]:=by
 unfold txs;simp;rw[Io (by rw[Tb];simp),Tb,EY];rfl
def mK{l:Ae Nt}{f i:Y}{out:Ae (Ae Nt)}{b:Y}(e:gen<=4611686018427387904)(hl:Good l)(a:l≠[])(d:∀k,k<Alz l+1->rd (i+k)=(txs gen i l).getD k [])(hm:i+Alz l+1<=m)(g:m<=20):
 CK gen rd m (f+(Alz l+1)) i [] out b=CK gen rd m f (i+Alz l+1) [] (out++[l]) (i+Alz l+1):=by
 rw[show f+(Alz l+1)=(f+1)+Alz l by omega,aL l _ i _ _ b hl (fun k h=>by
  rw[d k X,bT _ i l h];exact VF e l i hl X k _) X,EW]
 refine Ace a ?_ X;rw[d _ X,pm];exact aF Bh e X Bh
def Dy(g:Y):Y->Ae (Ae Nt)->Ae By
 |_,[]=>[]
 |i,l::ls=>txs g i l++Dy g (i+Alz l+1) ls
def Du(ls:Ae (Ae Nt)):Y:=(ls.map (fun l=>Alz l+1)).sum
def PA(l:Ae Nt)(a:Ae (Ae Nt)):Du (l::a)=Alz l+1+Du a:=by rfl
def Vd(g:Y):∀(ls:Ae (Ae Nt)) (i:Y),Alz (Dy g i ls)=Du ls
 |[],_=>rfl
 |l::ls,i=>by rw[Dy,Bx,IJ,Vd,PA]
def kf(g:Y)(l:Ae Nt):∀(ls:Ae (Ae Nt)) (i:Y),Dy g i (ls++[l])=Dy g i ls++txs g (i+Du ls) l
 |[],i=>by simp[Dy,Du]
 |x::ls,i=>by
  rw[Gi,Dy,Dy,kf,PA,Cq,show i+Alz x+1+Du _=i+(Alz x+1+Du ls) by omega]
def Ob(ls:Ae (Ae Nt)):Prop:=∀l∈ls,Good l/\l≠[]
def aJ(d:gen<=4611686018427387904)(a:m<=20):∀(ls:Ae (Ae Nt)) (f i:Y) (out:Ae (Ae Nt)) (b:Y),Ob ls->(∀k,k<Du ls->rd (i+k)=(Dy gen i ls).getD k [])->i+Du ls<=m->
 CK gen rd m (f+Du ls) i [] out b=CK gen rd m f (i+Du ls) [] (out++ls) (if ls=[]then b else i+Du ls)
 |[],f,i,out,b,_,_,_=>by simp[Du]
 |l::ls,f,i,out,b,hl,hr,hm=>by
  rw[PA]at hm hr;have h1:=hl l Bh
  have ih:=aJ d a ls f (i+Alz l+1) (out++[l]) (i+Alz l+1) (fun x hx=>hl x Bf) (fun k hk=>by
   have:=hr (Alz l+1+k) X;rw[Dy,Cd,Io (by rw[IJ];omega),IJ,show Alz l+1+k-(Alz l+1)=k by omega,show i+(Alz l+1+k)=i+Alz l+1+k by omega]at this;grind) X
  have e1:out++[l]++ls=out++l::ls:=Bh
  have e2:(if ls=[]then i+Alz l+1 else i+Alz l+1+Du ls)=i+(Alz l+1+Du ls):=by
   by_cases e:ls=[]
   .subst e;rfl
   .grind
  have g:i+Alz l+1+Du ls=i+(Alz l+1+Du ls):=X
  rw[PA,show f+(Alz l+1+Du _)=(f+Du ls)+(Alz l+1) by omega,mK d h1.1 h1.2 (fun k hk=>by
   rw[hr k X,Dy];simp;rw[FR (by rw[IJ];omega)]) X a,ih,e1,e2,g,Ag Bh]
end
end Wal
namespace Wal
open Rec Pth Dsk
structure Sm(D:Dv)(k:Y):Prop where
 calls:D.calls<=k
 pend:Alz D.pend<=k
 at_:D.at_<=9223372036854775807
 keep:Alz D.keep<=140737488355328
def Sm.small{D:Dv}{k:Y}(h:Sm D k)(hk:k<=1000000000):Small D:=⟨by have:=h.calls;omega,by have:=h.pend;omega,h.at_,h.keep⟩
def Sm.l{D:Dv}{k k':Y}(h:Sm D k)(hk:k<=k'):Sm D k':=⟨by have:=h.calls;omega,by have:=h.pend;omega,h.at_,h.keep⟩
def Yl{D:Dv}{k:Y}(h:Sm D k)(c:Av Ch):Sm (D.Ako c).1 (k+1):=by
 obtain⟨g,f,e,d⟩:=h;by_cases a:(D.Akl c).at_=1
 .rw[UN a];refine⟨?_,Bh,Bh,Bh⟩;cases c<;>simp[Dv.Akl]<;>omega
 .rw[UO a];cases c with
  |none=>exact⟨by simp[Dv.done,Dv.Akl];omega,by simp[Dv.done],by simp[Dv.done,Dv.Akl];omega,d⟩
  |some c=>exact⟨by simp[Dv.done,Dv.Akl];omega,by simp[Dv.done,Dv.Akl,Bx];omega,by simp[Dv.done,Dv.Akl];omega,d⟩
def PF{D:Dv}{k:Y}(h:Sm D k)(i:H)(s:Bg):Sm (D.write i s).1 (k+1):=by
 unfold Dv.write;split
 .exact h.l X
 .split
  .exact h.l X
  .split
   .exact h.l X
   .exact Yl h _
def bC{D:Dv}{k:Y}(h:Sm D k):Sm D.w.1 (k+1):=by
 unfold Dv.w;split
 .exact h.l X
 .exact Yl h _
def Tw(D:Dv)(i:Y)(s:By)(l:Ae By):writes D i (s::l)=if(D.write i s).2=0 then writes (D.write i s).1 (i+1) l else D.write i s:=rfl
def cy:∀(l:Ae By) (D:Dv) (i:Y),D.q->(writes D i l).1.q
 |[],D,i,h=>h
 |s::l,D,i,h=>by
  rw[Tw];split
  .exact cy l _ _ (NR h _ _)
  .exact NR h _ _
def pK:∀(l:Ae By) (D:Dv) (i k:Y),Sm D k->Sm (writes D i l).1 (k+Alz l)
 |[],D,i,k,h=>h
 |s::l,D,i,k,h=>by
  rw[Tw];split
  .have:=pK l _ (i+1) _ (PF h i s);grind
  .exact(PF h i s).l Bh
def mI(g:Y):∀(l:Ae Nt) (i:Y),(∀n∈l,CJ n)->∀s∈Gx g i l,Alz s=512
 |[],_,_,s,hs=>by simp[Gx]at hs
 |n::l,i,h,s,hs=>by
  rcases List.mem_cons.1 hs with q|q
  .rw[q];exact VY _ _ _ _ (by have:=(SL (h n Bh)).1;omega)
  .exact mI g l _ Bf s q
def We{g i:Y}{l:Ae Nt}(h:∀n∈l,CJ n):∀s∈txs g i l,Alz s=512:=by
 intro s a;rcases CW.1 a with q|q
 .exact mI g l i h s q
 .rw[Cp.1 q];exact VY _ _ _ _ Bh
def sh{D:Dv}{gen at_:H}{l:Ae Nt}(h:Iv gen at_ (Alz l)∨∃n∈l,¬CJ n):Fw D gen at_ l=(D,0,210):=by unfold Fw;grind
def eG{D:Dv}{gen at_:H}{l:Ae Nt}(h1:¬Iv gen at_ (Alz l))(h2:∀n∈l,CJ n):Fw D gen at_ l=(let r:=writes D (10+at_.toNat) (txs gen.toNat at_.toNat l);if r.2=0 then(if r.1.w.2=0 then(r.1.w.1,at_+Alz l+1,0)else(r.1.w.1,0,r.1.w.2))else(r.1,0,r.2)):=by
 unfold Fw;grind
end Wal
section
open Dsk
def _root_.Go.Proofs.YtkmlafmjaeeanaaGreatDoor.Dsk.Dv.read(D:Dv)(i:H):Dv×Bg×Y:=
 if D.dead then(D,[],190)else if i<0∨((Alz D.now/512:Y):H)<=i then(D,[],191)else({ D with calls:=D.calls+1 },(D.now.drop (i.toNat*512)).take 512,0)
def fe(l:Bg)(i j:Y):((BI l).drop i).take j=BI ((l.drop i).take j):=by simp[BI,TV]
section
variable{w:Ad}{B b:Y}{D:Dv}
def mF(h:Ce w B b D)(m:D.q)(q:Small D)(i:H)(P:-9223372036854775808<=i)(N:i<=9223372036854775807):
 Bm eD 48 [.pointer (J ⟨b,0,Aa⟩),Bb i] w fun v w'=>v=.tuple #[str (D.read i).2.1,Bb (((D.read i).2.2:Y):H)]/\Ce w' B b (D.read i).1/\Tm w w' B Cb:=by
 have L:=m.now;have K:=m.cap;have I:=q.calls;refine Bw Bh Z ntmps48 (by rfl) Z ?_;refine(O 9∘Zc (Ql h m)) ?_;rintro _ _⟨rfl,rfl⟩;refine(O 7) ?_;rcases hd:D.dead with _|_
 .refine(Ci 10∘O 8)<|Zd 14 (fun t=>?_) fun t=>?_
  .have e:D.read i=(D,[],191):=by unfold Dv.read;rw[hd,Ag Bh,Aj (X)]
   refine(O 12∘BF) ?_;rw[e];exact⟨Z,h,Tm.refl _ _ _⟩
  .refine(O 2∘Zc (Nv h m)) ?_;rintro _ _⟨rfl,rfl⟩;refine(O 3)<|Zi (fun r=>?_) fun r=>?_
   .have e:D.read i=(D,[],191):=by unfold Dv.read;rw[hd,Ag Bh,Aj (X)]
    refine(O 5∘BF) ?_;rw[e];exact⟨Z,h,Tm.refl _ _ _⟩
   .obtain⟨j,rfl⟩:=ES (show 0<=i by omega);have e:D.read j=({ D with calls:=D.calls+1 },(D.now.drop (j*512)).take 512,0):=by unfold Dv.read;rw[hd,Ag Bh,Ag X];rfl
    obtain⟨G,E,C,A,y,a⟩:=id h;refine(O 6∘Zv (Bo a.cells)∘O 3∘Zt a.cells) ?_;rintro x o k;refine(O 6) ?_;have g:=Dev.after (D':={ D with calls:=D.calls+1 }) a.lo a.cells k o a.kept a.now a.apart a.pend a.chs a.keep;obtain⟨A2,Q,p,n,f⟩:=g.now.slice;simp at p;obtain⟨rfl,rfl⟩:=p;dsimp at n f;refine(Zv (Bo Ck)∘O 5) ?_;refine Xj Z Z im CE Z Z Z X (f) (EZ _) ?_;rintro A3 d;rw[fe]at d;have l:Alz ((D.now.drop (j*512)).take ((j+1)*512-j*512))=(j+1)*512-j*512:=by rw[BW,CA];omega
    refine(Zv (DR d (hl:=l))∘O 3∘BF) ?_;rw[e];refine⟨?_,⟨_,_,_,_,_,g⟩,Dev.tmD a.lo a.cells k⟩;grind
 .have e:D.read i=(D,[],190):=by unfold Dv.read;rw[hd];rfl
  refine(EF 10∘O 7∘BF) ?_;rw[e];exact⟨Z,h,Tm.refl _ _ _⟩
end
end
namespace Cat
open Pth Rec Srt Dsk Wal
noncomputable def CO(D:Dv)(gen:H)(l:Ae M):Dv×Y:=open Classical in
 if OkE gen l/\OkC l D.cap then(let r:=writes D (gen.toNat%2*5) (EM gen (Cf l));if r.2=0 then r.1.w else r)else(D,230)
def nu{D:Dv}{gen:H}{l:Ae M}(h:¬(OkE gen l/\OkC l D.cap)):CO D gen l=(D,230):=by unfold CO;grind
def nt{D:Dv}{gen:H}{l:Ae M}(h:OkE gen l/\OkC l D.cap):CO D gen l=(let r:=writes D (gen.toNat%2*5) (EM gen (Cf l));if r.2=0 then r.1.w else r):=by unfold CO;grind
def Ti{gen:H}(s:Bg):∀t∈EM gen s,Alz t=512:=by
 intro t a;obtain⟨i,_,rfl⟩:=Cr.1 a;exact VY _ _ _ _ (az s i)
def nv{D:Dv}(h:D.q)(gen:H)(l:Ae M):(CO D gen l).1.q:=by
 unfold CO;split
 .simp;split
  .exact bB (cy _ _ _ h)
  .exact cy _ _ _ h
 .omega
def ny{D:Dv}{k:Y}(h:Sm D k)(gen:H)(l:Ae M):Sm (CO D gen l).1 (k+6):=by
 unfold CO;split
 .have a:=pK (EM gen (Cf l)) D (gen.toNat%2*5) k h;rw[IG]at a;simp;split
  .exact(bC a).l X
  .exact a.l X
 .exact h.l X
def BS(s:Bg)(j:Y):Bg:=(s.drop (j*512)).take 512
def Cv(D:Dv)(k:Y):Cl:=(BE 5).map fun i=>BS D.now (k*5+i)
def VP(D:Dv)(k:Y):Alz (Cv D k)=5:=by rfl
def Fi(D:Dv)(k:Y):Prop:=(k+1)*5<=Alz D.now/512
instance(D:Dv)(k:Y):Decidable (Fi D k):=by unfold Fi;infer_instance
structure Right(D:Dv)(k:Y):Prop where
 has:Fi D k
 dec:(CC (Cv D k)).2.2=0
 par:(CC (Cv D k)).1%2=(k:H)
 chk:OkC (CC (Cv D k)).2.1 D.cap
noncomputable def DS(D:Dv)(k:Y):Av (H×Ae M):=open Classical in
 if Right D k then J ((CC (Cv D k)).1,(CC (Cv D k)).2.1)else Aa
noncomputable def Ux:Av (H×Ae M)->Av (H×Ae M)->H×Ae M×Y
 |some a,J b=>if b.1<a.1 then(a.1,a.2,0)else(b.1,b.2,0)
 |some a,Aa=>(a.1,a.2,0)
 |none,J b=>(b.1,b.2,0)
 |none,Aa=>(0,[],230)
noncomputable def HD(D:Dv):H×Ae M×Y:=if D.dead then(0,[],190)else Ux (DS D 0) (DS D 1)
def CZ(D:Dv)(n:Y):Dv:={ D with calls:=D.calls+n }
def Mz(D:Dv):Y:=(if Fi D 0 then 5 else 0)+(if Fi D 1 then 5 else 0)
def CQ(D:Dv):Dv:=if D.dead then D else CZ D (Mz D)
def QV{D:Dv}(h:D.q)(n:Y):(CZ D n).q:=⟨h.cap,h.kept,h.now,h.keptM,h.nowM,h.pend⟩
def SZ{D:Dv}{k:Y}(h:Sm D k)(n:Y):Sm (CZ D n) (k+n):=⟨by show D.calls+n<=_;have:=h.calls;omega,by show Alz D.pend<=_;have:=h.pend;omega,h.at_,h.keep⟩
def SY(D:Dv)(a b:Y):CZ (CZ D a) b=CZ D (a+b):=by unfold CZ;grind
def kr{D:Dv}(h:D.q):(CQ D).q:=by unfold CQ;split;(· omega);(· exact QV h _)
def ku{D:Dv}{k:Y}(h:Sm D k):Sm (CQ D) (k+10):=by
 unfold CQ;split
 .exact h.l X
 .refine(SZ h _).l ?_;unfold Mz;grind
end Cat
section
open Pth Rec Srt Cat Dsk Wal
def nw{D:Dv}(hD:D.q){k:Y}(ai:Sm D k)(hk:k<=900000000)(B b:Y)(gen:H)(g0:-9223372036854775808<=gen)(g1:gen<=9223372036854775807)(l:Ae M)(hl:Alz l<=140737488355328)(V:∀m∈l,m.q)(A:Av AB)(c C:Y)(w:Ad)(hG:DE w)(h:Ce w B b D)(hs:Sl w C A (Dz l)):
 Bm eD 44 [.pointer (J ⟨b,0,Aa⟩),Bb gen,.slice A (Alz l) c] w fun v w'=>v=Bb (((CO D gen l).2:Y):H)/\Ce w' B b (CO D gen l).1/\Tm w w' B Cb:=by
 have a2:=hD.cap;have a4:∀w',Be w _->¬(OkE _ l/\OkC l _)->(Value.int .i64 230=Bb (((CO D gen l).2:Y))/\Ce w' B b (CO D gen l).1/\Tm w w' B Cb):=fun w' hx q=>nu q▸⟨Z,h.a hx,Tm.Akj hx _ _⟩;refine Bw Bh Z ntmps44 (by rfl) Z ?_;refine(O 8∘Zc (HQ h hD)) ?_;rintro _ _⟨rfl,rfl⟩;refine(O 2)<|Zi (fun h0=>?_) fun h0=>?_
 .omega
 .refine(O 5∘Zc (gJ _ l V hl A c C w hG hs)) ?_;rintro _ w1⟨⟨u,rfl,j⟩,r⟩;refine(O 12)<|Zi (fun he=>?_) fun he=>?_
  .have L:¬OkE _ l:=fun q=>by rw[Sx q]at he;omega
   have ab:(Eo gen l).2=230:=Yy L▸Z;refine(O 5) ?_;refine(Bu) ?_;grind
  .have hE:OkE gen l:=by
    rcases UP gen l with⟨q,_⟩|q
    .omega
    .grind
   rw[Sx hE]at j;simp[IG]at j;have p:=h.a r;refine(O 6∘Zc (HQ p hD)) ?_;rintro _ _⟨rfl,rfl⟩;refine(Zc (UF l V hl _ A c C _ (hG.a r) (hs.a r))) ?_;rintro _ w2⟨rfl,G⟩;refine(O 7) ?_;have x2:=r.trans G;refine Zi (fun hc=>?_) fun hc=>?_
   .have L:¬OkC l _:=fun q=>by rw[Si q]at hc;omega
    have ab:=OB L;refine(O 5) ?_;refine(Bu) ?_;grind
   .have hC:OkC l D.cap:=IM fun q=>hc (by rw[OB q];decide);obtain⟨g,rfl⟩:=ES hE.G;have Q:=nt (D:=D) (gen:=(g:H)) ⟨hE,hC⟩;have x:=Ti (gen:=(g:H)) (Cf l);have aj:=IG (g:H) (Cf l);have e:=j.a G;generalize EM (g:H) (Cf l)=T at Q x aj e;simp only[Oc]at Q;obtain⟨A3,c3,rfl,a3,_⟩:=e.slice;have h1:=p.a G;refine(O 9)<|Lo (fun((i,E,wr):Y×Dv×Ad)=>(i<=5/\E.q/\Sm E (k+i)/\writes E (g%2*5+i) (T.drop i)=writes D (g%2*5) T/\Ce wr B b E/\Tm w wr B Cb/\Bn wr w.heap.size 9 1 (.slice A3 5 c3) 5 (T.map str),[(0,.pointer (J ⟨b,0,Aa⟩)),(1,Bb g),(32,.slice A3 5 c3),(33,Bb ((5:Y):H)),(34,Bb i)],wr,5-i)) (0,D,w2) ?_ ?_
    .exact⟨BC _,hD,ai,Z,h1,Tm.Akj x2 _ _,e⟩
    .rintro⟨i,E,wr⟩⟨hi,P,K,t,y,I,f⟩;refine(O 5)<|Zi (fun al=>?_) fun al=>?_
     .have n:i<Alz T:=X;have a0:T.drop i=T[i]::T.drop (i+1):=DD n;have a1:=x T[i] (BL n);have W:(T.map str)[i]? =J (str T[i]):=by rw[DV,BQ n];rfl
      rw[a0,Tw]at t;generalize T[i]=s at t a1 W;obtain⟨A4,c4,e4,_,S⟩:=f.slice;cases e4;obtain⟨bb,o,rfl,_,N⟩:=S.at_ Bf;refine(O 7∘Zv (BR (N i _ W))∘O 12) ?_;have cw:=PE y P (K.small X) ((g%2*5+i:Y):H) X X s X;refine(Zc cw) ?_;rintro _ w5⟨rfl,a,d⟩;refine(O 7)<|Zi (fun ao=>?_) fun ao=>?_
      .rw[Ag X]at t;refine(O 5∘Bu) ?_;rw[Q,<-t];rw[Ag X];exact⟨Z,a,I.trans d⟩
      .rw[Aj X]at t;refine(O 6)<|Lb ((i+1),((E.write ((g%2*5+i:Y):H) s).1),w5) ?_;exact⟨X,NR P _ _,PF K _ _,t,a,I.trans d,d.y f Bc⟩
     .obtain rfl:i=5:=X;rw[La X]at t;have af:writes D (g%2*5) T=(E,0):=t.symm;rw[af]at Q;simp only[if_true]at Q;refine(O 4∘Zc (Tp y P (K.small X))) ?_;rintro _ w5⟨rfl,a,d⟩;refine(O 2∘Bu) ?_;rw[Q];exact⟨Z,a,I.trans d⟩
section
variable{w w':Ad}{B b:Y}{D:Dv}{vk vn vp vq:Ah}{vs:Bl}
def Dev.j{S:Bj}(h:Dev w B b D vk vn vp vq vs)(hm:Mo w w' S)(o:∀k∈S,∃T l,Bk w k T l/\T≠85/\T≠5/\T≠137/\T≠4)(e:KU w' D.pend vs):Dev w' B b D vk vn vp vq vs:=by
 have nb:∀{k T l},Bk w k T l->(T=85∨T=5∨T=137∨T=4)->k∉S:=fun {k T l} i m d=>by
  obtain⟨T',p,f,x,t,r,q⟩:=o k d;obtain⟨rfl,_⟩:=i.det f;grind
 have a:∀{T v n g},Bn w B T 1 v n g->(T=85∨T=5∨T=137∨T=4)->∀k,Pi v=J k->k∉S:=fun {T v n g} j m k d=>by
  obtain⟨_,l,i⟩:=j.K k d;grind
 exact⟨h.lo,h.cells.j hm (nb h.cells Bh),h.kept.j hm (a h.kept Bh),h.now.j hm (a h.now Bh),h.apart,h.pend.j hm (a h.pend Bh),e,h.keep.j hm (a h.keep Bh)⟩
def aG(hv:Dev w B b D vk vn vp vq vs)(k:D.q)(p:Small D)(q:D.dead=Ai){j:Y}(A:j<Alz D.now/512):
 Bm eD 48 [.pointer (J ⟨b,0,Aa⟩),Bb (j:H)] w fun v w'=>v=.tuple #[str (BS D.now j),Bb ((0:Y):H)]/\Dev w' B b (CZ D 1) vk vn vp vq vs/\Mo w w' [b]:=by
 have y:=k.now;have x:=k.cap;have t:=p.calls;have h:=hv.at_;have o:=Ql h k;rw[q]at o;refine Bw Bh Z ntmps48 (by rfl) Z ?_;refine(O 9∘Zc o) ?_;rintro _ _⟨rfl,rfl⟩;refine(O 7∘Ci 10∘O 8∘Kw 14∘O 2∘Zc (Nv h k)) ?_;rintro _ _⟨rfl,rfl⟩;refine(O 3∘Ci 19∘O 7) ?_;refine(Zv (Bo hv.cells)∘O 3∘Zt hv.cells) ?_;rintro r m g;refine(O 6) ?_;have d:=Dev.after (D':=CZ D 1) hv.lo hv.cells g m hv.kept hv.now hv.apart hv.pend hv.chs hv.keep;obtain⟨A2,C,n,l,f⟩:=d.now.slice;simp[CZ,Value.slice.injEq,true_and]at n;obtain⟨rfl,rfl⟩:=n;dsimp[CZ]at l f;refine(Zv (Bo Ck)∘O 5) ?_;refine Xj Z Z Bh CE Z Z Z X X (EZ _) ?_;rintro A3 a;rw[fe]at a;have e:(j+1)*512-j*512=512:=X;have i:Alz ((D.now.drop (j*512)).take ((j+1)*512-j*512))=(j+1)*512-j*512:=by rw[BW,CA];omega
 refine(Zv (DR a (hl:=i))∘O 3∘BF) ?_;refine⟨?_,d,g⟩;rw[e];rfl
end
structure SlI(w:Ad)(B0:Y)(D:Dv)(j:Y)(g:H)(v:Ah)(r:Ar):Prop where
 right:r=Af↔Right D j
 gen:r=Af->g=(CC (Cv D j)).1
 y:r=Af->Bn w B0 60 5 v (Alz (CC (Cv D j)).2.1) (Dz (CC (Cv D j)).2.1)
def JH(w:Ad)(B0:Y)(D:Dv)(j k:Y)(g:H)(v:Ah)(r:Ar):Prop:=v.oneCell'=Af/\(j<k->SlI w B0 D j g v r)/\(k<=j->r=Ai)
def Kt(w:Ad)(B0 sb:Y)(D:Dv)(k:Y):Prop:=∃g0 v0 r0 g1 v1 r1,Bk w sb 140 [Bb g0,v0,.bool r0,Bb g1,v1,.bool r1]/\JH w B0 D 0 k g0 v0 r0/\JH w B0 D 1 k g1 v1 r1
def JH.keep{w w':Ad}{B0:Y}{D:Dv}{j k:Y}{g:H}{v:Ah}{r:Ar}(h:JH w B0 D j k g v r)(ho:∀{v n xs},Bn w B0 60 5 v n xs->Bn w' B0 60 5 v n xs):JH w' B0 D j k g v r:=
 ⟨h.1,fun q=>⟨(h.2.1 q).right,(h.2.1 q).gen,fun z=>ho ((h.2.1 q).y z)⟩,h.2.2⟩
def Kt.keep{w w':Ad}{d a:Y}{D:Dv}{k:Y}(h:Kt w d a D k)(e:∀{v n xs},Bn w d 60 5 v n xs->Bn w' d 60 5 v n xs)(f:∀{l},Bk w a 140 l->Bk w' a 140 l):Kt w' d a D k:=by
 obtain⟨t,o,q,r,m,p,j,i,g⟩:=h;exact⟨_,_,_,_,_,_,f j,i.keep e,g.keep e⟩
def JH.skip{w:Ad}{a:Y}{D:Dv}{j k:Y}{g:H}{v:Ah}{r:Ar}(h:JH w a D j k g v r)(e:¬Fi D k):JH w a D j (k+1) g v r:=by
 refine⟨h.1,fun q=>?_,fun q=>h.2.2 X⟩;rcases CM j k with z|z
 .exact h.2.1 z
 .obtain rfl:j=k:=X;have d:=h.2.2 z;subst d;exact⟨⟨Bh,fun q=>absurd q.has e⟩,Bh,Bh⟩
def Kt.skip{w:Ad}{e a:Y}{D:Dv}{k:Y}(h:Kt w e a D k)(d:¬Fi D k):Kt w e a D (k+1):=by
 obtain⟨p,l,n,o,j,m,i,g,f⟩:=h;exact⟨_,_,_,_,_,_,i,g.skip d,f.skip d⟩
def JH.next{w:Ad}{B0:Y}{D:Dv}{j k:Y}{g:H}{v:Ah}{r:Ar}(h:JH w B0 D j k g v r)(hn:j≠k):JH w B0 D j (k+1) g v r:=
 ⟨h.1,fun q=>h.2.1 X,fun q=>h.2.2 X⟩
def Agj{w w':Ad}{d e:Y}{D:Dv}{k:Y}{g i h:H}{v v0 v1:Ah}{r r0 r1:Ar}(hk:k<2)(p:Bk w e 140 [Bb i,v0,.bool r0,Bb h,v1,.bool r1])(h0:JH w d D 0 k i v0 r0)(h1:JH w d D 1 k h v1 r1)(m:JH w d D k (k+1) g v r)(hm:Mo w w' [e])
 (a:Bk w' e 140 ([Bb i,v0,.bool r0,Bb h,v1,.bool r1].take (0+k*3)++[Bb g,v,.bool r]++[Bb i,v0,.bool r0,Bb h,v1,.bool r1].drop (0+k*3+3))):Kt w' d e D (k+1):=by
 have f:∀{v n j},Bn w d 60 5 v n j->Bn _ _ 60 5 v n _:=fun {v n j} l=>l.j hm (fun q o=>by simp;exact fun z=>l.ne p Bc q o z.symm);rcases(show k=0∨k=1 by omega)with rfl|rfl
 .exact⟨_,_,_,_,_,_,a,m.keep f,(h1.next Bc).keep f⟩
 .exact⟨_,_,_,_,_,_,a,(h0.next Bc).keep f,m.keep f⟩
def eW{w:Ad}{b:Y}{T:Aw}{l l2:Bl}{o:Y}(h:Bk w b T l)(e:(l.drop o).take (Alz l2)=l2):∀j u,l2[j]? =J u->w.cell? ⟨b,o+j,Aa⟩=J u:=by
 intro j u a;refine h.I ?_;grind
def LC{w w':Ad}{B:Y}{p:Aw->Ar}(h:DE w)(ht:Tm w w' B p)(f:0<B):DE w':=by
 obtain⟨m,e⟩:=h;obtain⟨S,a,g⟩:=ht;have d:=World.block_lt_of_cell? w _ e;refine⟨m,?_⟩;have i:=a.block 0 d Bf;unfold World.cell? at e ⊢;grind
section
variable{w w':Ad}{B b:Y}{D:Dv}{vk vn vp vq:Ah}{vs:Bl}
def Dev.tmB(h:Dev w B b D vk vn vp vq vs)(hm:Mo w w' [b]):Tm w w' B Cb:=⟨[b],hm,fun k hk=>by
 simp at hk;subst hk;exact⟨h.lo,_,_,h.cells,Z⟩⟩
end
def uG{ss:Cl}(h:(CC ss).2.2=0):0<=(CC ss).1:=by
 rcases NX (OkD ss)with q|q
 .rw[Qu q];exact(Sz q.enc).1.G
 .rw[Sv q]at h;grind
def uC(ss:Cl):(∀m∈(CC ss).2.1,m.q)/\Alz (CC ss).2.1<=1000000000∨1000000<Alz ss:=by
 rcases CM 1000000 (Alz ss)with d|d
 .omega
 .left;rcases NX (OkD ss)with q|q
  .rw[Qu q];refine⟨kT _,?_⟩;have f:=ZH (Alz (EH ss)+1) (EH ss) [];have e:=XY ss;have a:EA _ _ _=Gt ss:=rfl;grind
  .rw[Sv q];simp
def Agi{D:Dv}{k i:Y}(h:i<5):Da ((Cv D k).take (i+1))=Da ((Cv D k).take i)++[str (BS D.now (k*5+i))]:=by
 have a:i<Alz (Cv D k):=by rwa[VP]
 rw[<-CX a];simp[Da,Cv]
def tv{D:Dv}(hD:D.q){k0:Y}(co:Sm D k0)(dn:k0<=900000000)(B b:Y)(w:Ad)(hG:DE w)(cb:0<B)(h:Ce w B b D):
 Bm eD 39 [.pointer (J ⟨b,0,Aa⟩)] w fun v w'=>(∃u,v=.tuple #[Bb (HD D).1,u,Bb (((HD D).2.2:Y):H)]/\Bn w' w.heap.size 60 5 u (Alz (HD D).2.1) (Dz (HD D).2.1))/\Ce w' B b (CQ D)/\Tm w w' B Cb:=by
 have db:=hD.cap;have c4:=hD.now;refine Bw Bh Z ntmps39 Bi Z ?_;refine(O 10∘Zc (HQ h hD)) ?_;rintro _ _⟨rfl,rfl⟩;refine(O 2)<|Zi (fun h0=>?_) fun h0=>?_
 .omega
 .refine(O 5∘Zc (Qt h hD)) ?_;rintro _ _⟨rfl,rfl⟩;refine(O 1) ?_;refine Ga Z (fun hd=>?_) (fun hd=>?_)
  .have e1:HD D=(0,[],190):=by unfold HD;rw[Aj hd]
   have e2:CQ D=D:=by unfold CQ;rw[Aj hd]
   refine(O 6∘Cy) ?_;rw[e1,e2];exact⟨⟨_,Z,Bn.nil _ _ _ _⟩,h,Tm.refl _ _ _⟩
  .have e1:HD D=Ux (DS D 0) (DS D 1):=by unfold HD;rw[Ag (by rw[hd];decide)]
   have e2:CQ D=CZ D (Mz D):=by unfold CQ;rw[Ag (by rw[hd];decide)]
   rw[e1,e2];obtain⟨vk,vn,vp,vq,vs,hv⟩:=id h;refine(O 3∘Zn) ?_;rintro L w1 da c1 m;refine(O 6) ?_;have g:Kt w1 w.heap.size L D 0:=⟨_,_,_,_,_,_,c1,⟨Z,fun q=>by omega,fun _=>rfl⟩,⟨Z,fun q=>by omega,fun _=>rfl⟩⟩;refine Lc (fun(wr:Ad)=>(Dev wr B b (CZ D (Mz D)) vk vn vp vq vs/\Tm w wr B Cb/\Kt wr w.heap.size L D 2,[(5,.pointer (J ⟨L,0,Aa⟩))],wr)) ?_ ?_
   .refine(O 1)<|Lo (fun((k,n,wr):Y×Y×Ad)=>(k<=2/\n=(if 0<k/\Fi D 0 then 5 else 0)+(if 1<k/\Fi D 1 then 5 else 0)/\Dev wr B b (CZ D n) vk vn vp vq vs/\Tm w wr B Cb/\Kt wr w.heap.size L D k,[(0,.pointer (J ⟨b,0,Aa⟩)),(5,.pointer (J ⟨L,0,Aa⟩)),(21,Bb k)],wr,2-k)) (0,0,w1) ?_ ?_
    .exact⟨BC _,Bh,hv.a m,Tm.Akj m _ _,g⟩
    .rintro⟨k,n,wr⟩⟨dk,hn,f,ab,g⟩;have c6:n<=10:=by rw[hn];split<;>split<;>omega
     have df:(CZ D n).dead=Ai:=hd;have cp:(CZ D n).q:=QV hD n;have c3:B<=L:=by have:=f.lo;have:=hv.lo;have:=hv.cells.lt;omega
     have cq:(CZ D n).now.length=Alz D.now:=rfl;refine(O 5)<|Zi (fun a9=>?_) fun a9=>?_
     .have dg:(if 0<k+1/\Fi D 0 then 5 else 0)+(if 1<k+1/\Fi D 1 then 5 else 0)=n+(if Fi D k then 5 else 0):=by
       rcases(show k=0∨k=1 by omega)with rfl|rfl
       .rw[hn];simp
       .rw[hn];simp
      refine(O 12∘Zc (Nv f.at_ cp)) ?_;rintro _ _⟨rfl,rfl⟩;refine(O 5)<|Zi (fun bh=>?_) fun bh=>?_
      .have cs:¬Fi D k:=fun q=>by unfold Fi at q;omega
       refine(O 5)<|Lb ((k+1),n,wr) ?_;refine⟨X,?_,f,ab,g.skip cs⟩;grind
      .have bb:Fi D k:=by rw[cq]at bh;unfold Fi;omega
       have bi:=bb;unfold Fi at bi;refine(O 10)<|Lc (fun((v,K):Ah×Ad)=>(Bn K wr.heap.size 9 1 v 5 (Da (Cv D k))/\Dev K B b (CZ D (n+5)) vk vn vp vq vs/\Mo wr K [b],[(0,.pointer (J ⟨b,0,Aa⟩)),(5,.pointer (J ⟨L,0,Aa⟩)),(6,Bb k),(7,v),(21,Bb k)],K)) ?_ ?_
       .refine(O 1)<|Lo (fun((i,v,K):Y×Ah×Ad)=>(i<=5/\Bn K wr.heap.size 9 1 v i (Da ((Cv D k).take i))/\Dev K B b (CZ D (n+i)) vk vn vp vq vs/\Mo wr K [b],[(0,.pointer (J ⟨b,0,Aa⟩)),(5,.pointer (J ⟨L,0,Aa⟩)),(6,Bb k),(7,v),(21,Bb k),(30,Bb i)],K,5-i)) (0,(.slice Aa 0 0),wr) ?_ ?_
        .exact⟨BC _,Bn.nil _ _ _ _,f,Mo.refl _ _⟩
        .rintro⟨i,v,K⟩⟨hi,E,a2,aj⟩;refine(O 5)<|Zi (fun ct=>?_) fun ct=>?_
         .have cr:=aG a2 (QV hD _) ((SZ co (n+i)).small X) hd (j:=k*5+i) (by show _<Alz D.now/512;omega);refine(O 15∘Zc cr) ?_;rintro _ w5⟨rfl,cn,ca⟩;refine(O 9) ?_;have N:=E.j ca (fun q hq=>by simp;exact fun z=>E.ne a2.cells Bc q hq z.symm);have bf:=aj.trans ca;refine(Qk wr.heap.size bf.size N) ?_;rintro _ v6 w6 bn bd c0;refine(O 7)<|Lb ((i+1),v6,w6) ?_
          have b9:Mo wr w6 [b]:=Mo.fresh (S:=[b]++v.ownBlock.toList) ((bf.mono Bh).trans (bd.mono Bf)) (fun q hq a9=>by
           rcases CW.1 hq with z|z
           .omega
           .have:=(N.lt q (FG.1 z)).1;omega)
          refine⟨X,by rw[Agi X];exact bn,?_,b9⟩
          have dc:=cn.j bd (fun q hq=>by
           obtain⟨_,l,d0⟩:=N.K q (FG.1 hq);grind) (f.chs.tm (f.tmB b9) Z Z)
          assumption
         .obtain rfl:i=5:=X;rw[Dh Ck]at E;refine(O 1∘Lm (v,K)) ?_;grind
       .rintro⟨v,K⟩⟨E,a2,aj⟩;obtain⟨A5,c5,rfl,_,b8⟩:=E.slice;have bj:Tm w K B Cb:=ab.trans (f.tmB aj);have c2:=LC hG bj cb;have cu:=VP D k;have cd:=uM (Cv D k) X A5 c5 _ K c2 b8;rw[cu]at cd;have b0:=uG (ss:=Cv D k);have cc:=(uC (Cv D k)).resolve_right X;have d:∀r:Ar,(r=Af↔((CC (Cv D k)).2.2=0/\(CC (Cv D k)).1%2=(k:H)/\OkC (CC (Cv D k)).2.1 D.cap))->(r=Af↔Right D k):=fun r q=>q.trans ⟨fun z=>⟨bb,z.1,z.2.1,z.2.2⟩,fun z=>⟨z.dec,z.par,z.chk⟩⟩;have bl:Kt K w.heap.size L D k:=g.keep (fun ho=>(f.tmB aj).y ho Bc) (fun hb=>(f.tmB aj).bk hb Bc);have b1:∀(w':Ad) (v:Ah) (r:Ar),(r=Af↔Right D k)->Bn w' w.heap.size 60 5 v (Alz (CC (Cv D k)).2.1) (Dz (CC (Cv D k)).2.1)->JH w' w.heap.size D k (k+1) (CC (Cv D k)).1 v r:=fun w' v r h1 h2=>⟨Bn.one h2,fun _=>⟨h1,fun _=>rfl,fun _=>h2⟩,fun q=>by omega⟩;generalize c9:(CC (Cv D k)).1=gg at cd b0 d b1;generalize c8:(CC (Cv D k)).2.1=ll at cd cc d b1;generalize(CC (Cv D k)).2.2=ee at cd b0 d;refine(O 3∘Zc cd) ?_;rintro _ w7⟨⟨u7,rfl,af⟩,a1⟩;refine(O 8) ?_;have bm:Kt w7 w.heap.size L D k:=bl.keep (fun ho=>ho.a a1) (fun hb=>hb.a a1);have b5:=a2.a a1;have b6:Tm w w7 B Cb:=bj.trans (Tm.Akj a1 _ _);have cm:=bj.size;have a5:Bn w7 w.heap.size 60 5 u7 (Alz ll) (Dz ll):=af.l cm;obtain⟨A7,c7,rfl,_,b7⟩:=af.slice;obtain⟨Q,v0,r0,P,v1,W,T,a7,a6⟩:=bm
        have C:∀(r:Ar) (wx V:Ad),(r=Af↔Right D k)->Be w7 wx->Bk V L 140 ([Bb Q,v0,.bool r0,Bb P,v1,.bool W].take (0+k*3)++[Bb gg,.slice A7 (Alz ll) c7,.bool r]++[Bb Q,v0,.bool r0,Bb P,v1,.bool W].drop (0+k*3+3))->Mo wx V [L]->(k+1<=2/\n+5=(if 0<k+1/\Fi D 0 then 5 else 0)+(if 1<k+1/\Fi D 1 then 5 else 0)/\Dev V B b (CZ D (n+5)) vk vn vp vq vs/\Tm w V B Cb/\Kt V w.heap.size L D (k+1)):=fun r wx V q I hb hm=>by
         have b4:=b5.a I;have ce:=T.a I;refine⟨X,Bf,b4.j hm (fun z hz=>?_) (b4.chs.tm (Tm.set ce hm c3) Z Z),(b6.trans (Tm.Akj I _ _)).fresh hm (fun z hz=>?_),Agj X ce (a7.keep (fun ho=>ho.a I)) (a6.keep (fun ho=>ho.a I)) (b1 wx _ r q (a5.a I)) hm hb⟩
         .grind
         .grind
        refine(O 7)<|Zd 58 (fun he=>?_) fun he=>?_
        .obtain rfl:ee=0:=X;obtain⟨gN,rfl⟩:=ES (b0 Z);refine(O 6)<|Zd 64 (fun hp=>?_) fun hp=>?_
         .refine(O 2∘Zc (HQ b5.at_ (QV hD _))) ?_;rintro _ _⟨rfl,rfl⟩;refine(Zc (UF ll cc.1 X D.cap A7 c7 _ w7 (LC hG b6 cb) b7)) ?_;rintro _ w8⟨rfl,b3⟩;refine OW.val Z Z (by first|exact Wt (b:=0) Z Z|exact Wu Z Z) ?_;refine OW.val Z Z (de Z Z) ?_;refine OW.val Z Z (RD (pl:=[(0,1),(1,1),(2,1)]) (ks:=[0,1,2]) (is:=[0,1,2]) (zs:=[Bb 0,.slice Aa 0 0,.bool Ai]) iY LL Bi Z Z Z (by first|rfl|(simp only[Hb,Hc,GZ,Hu,Bool.and_eq_true,Value.oneCell'];repeat (first|assumption|exact Bn.one Ck|constructor))) (by simp only[LI,IW,Lj];rfl)) ?_;refine OW.val Z Z (PM lj LL Z Z X) ?_;refine Uo Z LL Z Z Z (by first|rfl|(simp only[Hb,Hc,GZ,Hu,Bool.and_eq_true,Value.oneCell'];repeat (first|assumption|exact Bn.one Ck|constructor))) ((T.a b3)) Bv ?_;rintro w9 a0 al;refine(O 6)<|Lb ((k+1),(n+5),w9) ?_;refine C _ w8 w9 ?_ b3 a0 al;apply d;have e9:(Lp ll (D.cap:H)=0)↔OkC ll (D.cap:H):=⟨fun z=>IM fun y=>(by rw[OB y]at z;omega),fun z=>Si z⟩;simp only[decide_eq_true_eq];refine Iff.intro (fun z=>Il ?_ (Il ?_ (e9.1 z))) (fun z=>e9.2 z.2.2)
          .simp
          .omega
         .refine HN Z Z ?_;refine HN Z Z ?_;refine HN Z Z ?_;refine HN Z Z ?_;refine HN Z Z ?_;refine OW.val Z Z (TF Z Z) ?_;refine OW.val Z Z (RD (pl:=[(0,1),(1,1),(2,1)]) (ks:=[0,1,2]) (is:=[0,1,2]) (zs:=[Bb 0,.slice Aa 0 0,.bool Ai]) iY LL Bi Z Z Z (by first|rfl|(simp only[Hb,Hc,GZ,Hu,Bool.and_eq_true,Value.oneCell'];repeat (first|assumption|exact Bn.one Ck|constructor))) (by simp only[LI,IW,Lj];rfl)) ?_;refine OW.val Z Z (PM lj LL Z Z X) ?_;refine Uo Z LL Z Z Z (by first|rfl|(simp only[Hb,Hc,GZ,Hu,Bool.and_eq_true,Value.oneCell'];repeat (first|assumption|exact Bn.one Ck|constructor))) (T) Bv ?_;rintro w9 a0 al;refine(O 6)<|Lb ((k+1),(n+5),w9) ?_;refine C _ w7 w9 ?_ (Be.refl _) a0 al;apply d;grind
        .refine HN Z Z ?_;refine HN Z Z ?_;refine HN Z Z ?_;refine HN Z Z ?_;refine OW.val Z Z (TF Z Z) ?_;refine OW.val Z Z (EX.move Z) ?_;refine HN Z Z ?_;refine HN Z Z ?_;refine HN Z Z ?_;refine HN Z Z ?_;refine HN Z Z ?_;refine OW.val Z Z (TF Z Z) ?_;refine OW.val Z Z (RD (pl:=[(0,1),(1,1),(2,1)]) (ks:=[0,1,2]) (is:=[0,1,2]) (zs:=[Bb 0,.slice Aa 0 0,.bool Ai]) iY LL Bi Z Z Z (by first|rfl|(simp only[Hb,Hc,GZ,Hu,Bool.and_eq_true,Value.oneCell'];repeat (first|assumption|exact Bn.one Ck|constructor))) (by simp only[LI,IW,Lj];rfl)) ?_;refine OW.val Z Z (PM lj LL Z Z X) ?_;refine Uo Z LL Z Z Z (by first|rfl|(simp only[Hb,Hc,GZ,Hu,Bool.and_eq_true,Value.oneCell'];repeat (first|assumption|exact Bn.one Ck|constructor))) (T) Bv ?_;rintro w9 a0 al;refine(O 6)<|Lb ((k+1),(n+5),w9) ?_;refine C _ w7 w9 ?_ (Be.refl _) a0 al;apply d;grind
     .obtain rfl:k=2:=X;refine(O 1∘Lm wr) ?_;refine⟨?_,ab,g⟩;have:n=Mz D:=by rw[hn];unfold Mz;simp
      grind
   .rintro wr⟨f,ab,g⟩;obtain⟨Q,v0,r0,P,v1,W,T,a7,a6⟩:=g;have a4:=a7.2.1 Bc;have a3:=a6.2.1 Bc;have dv:=a7.1;have ds:=a6.1;refine(O 1)<|Lc (fun((V,a,c):Ad×Y×Y)=>(Be wr V/\Bk V a 139 [Bb Q,v0,.bool r0]/\Bk V c 139 [Bb P,v1,.bool W],[(14,.pointer (J ⟨a,0,Aa⟩)),(15,.pointer (J ⟨c,0,Aa⟩))],V)) ?_ ?_
    .have dp:wr.drew.heap.size=wr.heap.size:=rfl;have cf:Bk wr.drew L 140 [Bb Q,v0,.bool r0,Bb P,v1,.bool W]:=T.a (Be.drew wr);refine(Yr 8 (fun w'=>Bk w' L 140 [Bb Q,v0,.bool r0,Bb P,v1,.bool W]) cf) fun p=>(Gv [0]∘Yw 1 (he:=by exact fun _ b2=>Dj [Bb Q,v0,.bool r0] (eW b2 (o:=0) (l2:=[Bb Q,v0,.bool r0]) Z))∘Gv [2]∘Yw 3 (he:=by exact fun _ b2=>Dj [Bb P,v1,.bool W] (eW b2 (o:=3) (l2:=[Bb P,v1,.bool W]) Z)))<|Ye 4 5 ?_ ?_
     .refine(Jn 4) ?_;rintro ba x1 cx ai m;refine⟨p.a m,fun p=>?_⟩;refine(Yn 5) ?_;rintro bc x2 cw a8 t;refine⟨p.a t,fun p=>?_⟩;have G:ba≠bc:=by have:=ai.lt;omega
      have cg:=ai.a t;have cl:=m.size;have ck:=t.size;refine(Ys 6 cg) ?_;rintro x3 bs A;refine⟨p.j A (by simp;exact p.ne cg Bc),fun p=>?_⟩;have ao:=a8.j A (by simp;exact fun z=>G z.symm);have cj:=A.size;refine(Ys 7 ao) ?_;rintro x4 bq x;refine⟨p.j x (by simp;exact p.ne ao Bc),fun p=>?_⟩;refine(Yd) ?_;have ch:=x.size;refine(Lm (x4,ba,bc)) ?_;have bx:Mo wr x4 [ba,bc]:=(((((Mo.Akj (Be.drew wr) _).trans (Mo.Akj m _)).trans (Mo.Akj t _)).trans (A.mono Bh)).trans (x.mono Bh));exact⟨(Mo.fresh (S':=[]) bx (fun q hq a9=>by simp at hq;rcases hq with rfl|rfl<;>omega)).a,bs.j x (by simp;exact G),bq⟩
     .refine(Jn 5) ?_;rintro bc x1 cx ai m;refine⟨p.a m,fun p=>?_⟩;refine(Yn 4) ?_;rintro ba x2 cw a8 t;refine⟨p.a t,fun p=>?_⟩;have G:ba≠bc:=by have:=ai.lt;omega
      have cz:=ai.a t;have cl:=m.size;have ck:=t.size;refine(Ys 6 a8) ?_;rintro x3 bs A;refine⟨p.j A (by simp;exact p.ne a8 Bc),fun p=>?_⟩;have ao:=cz.j A (by simp;exact fun z=>G z.symm);have cj:=A.size;refine(Ys 7 ao) ?_;rintro x4 bq x;refine⟨p.j x (by simp;exact p.ne ao Bc),fun p=>?_⟩;refine(Yd) ?_;have ch:=x.size;refine(Lm (x4,ba,bc)) ?_;have bx:Mo wr x4 [ba,bc]:=(((((Mo.Akj (Be.drew wr) _).trans (Mo.Akj m _)).trans (Mo.Akj t _)).trans (A.mono Bh)).trans (x.mono Bh));exact⟨(Mo.fresh (S':=[]) bx (fun q hq a9=>by simp at hq;rcases hq with rfl|rfl<;>omega)).a,bs.j x (by simp;exact G),bq⟩
    .rintro⟨V,a,c⟩⟨I,ha,hc⟩;have C:∀w',Be wr w'->Ce w' B b (CZ D (Mz D))/\Tm w w' B Cb:=fun w' q=>⟨f.at_.a q,ab.trans (Tm.Akj q _ _)⟩;have s0:r0=Af->DS D 0=J (Q,(CC (Cv D 0)).2.1):=fun q=>by unfold DS;rw[Aj (a4.right.1 q),a4.gen q]
     have s1:W=Af->DS D 1=J (P,(CC (Cv D 1)).2.1):=fun q=>by unfold DS;rw[Aj (a3.right.1 q),a3.gen q]
     have n0:r0=Ai->DS D 0=Aa:=fun q=>by unfold DS;rw[Ag (fun z=>by have:=a4.right.2 z;rw[q]at this;cases this)]
     have n1:W=Ai->DS D 1=Aa:=fun q=>by unfold DS;rw[Ag (fun z=>by have:=a3.right.2 z;rw[q]at this;cases this)]
     have o0:=a4.y;have o1:=a3.y;rcases Bool.eq_false_or_eq_true r0 with rfl|rfl<;>rcases Bool.eq_false_or_eq_true W with rfl|rfl
     .rw[s0 Z,s1 Z];refine(O 20)<|Zi (fun cv=>?_) fun cv=>?_
      .have e:Ux (J (Q,(CC (Cv D 0)).2.1)) (J (P,(CC (Cv D 1)).2.1))=(Q,(CC (Cv D 0)).2.1,0):=Aj (show P<Q by omega);rw[e];refine(O 3∘Zq (by exact fun _=>Bo (ha.drewN _))∘O 1∘Zq (by exact fun _=>Bo (ha.drewN _))∘O 3∘QW.nil) fun nq=>(Cy) ?_;exact⟨⟨_,Z,((o0 Z).a I).a (Be.drewN _ _)⟩,C _ (I.trans (Be.drewN _ _))⟩
      .have e:Ux (J (Q,(CC (Cv D 0)).2.1)) (J (P,(CC (Cv D 1)).2.1))=(P,(CC (Cv D 1)).2.1,0):=Ag (show ¬P<Q by omega);rw[e];refine(O 10∘Zq (by exact fun _=>Bo (hc.drewN _))∘O 1∘Zq (by exact fun _=>Bo (hc.drewN _))∘O 3∘QW.nil) fun nq=>(Cy) ?_;exact⟨⟨_,Z,((o1 Z).a I).a (Be.drewN _ _)⟩,C _ (I.trans (Be.drewN _ _))⟩
     .rw[s0 Z,n1 Z];refine(O 24∘Zq (by exact fun _=>Bo (ha.drewN _))∘O 1∘Zq (by exact fun _=>Bo (ha.drewN _))∘O 3∘QW.nil) fun nq=>(Cy) ?_;exact⟨⟨_,Z,((o0 Z).a I).a (Be.drewN _ _)⟩,C _ (I.trans (Be.drewN _ _))⟩
     .rw[n0 Z,s1 Z];refine(O 31∘Zq (by exact fun _=>Bo (hc.drewN _))∘O 1∘Zq (by exact fun _=>Bo (hc.drewN _))∘O 3∘QW.nil) fun nq=>(Cy) ?_;exact⟨⟨_,Z,((o1 Z).a I).a (Be.drewN _ _)⟩,C _ (I.trans (Be.drewN _ _))⟩
     .rw[n0 Z,n1 Z];refine(O 36∘Cy) ?_;exact⟨⟨_,Z,Bn.nil _ _ _ _⟩,C _ I⟩
end
section
open Rec Pth Dsk Wal
def _root_.Go.Proofs.YtkmlafmjaeeanaaGreatDoor.Wal.Nt.cells(n:Nt):Bl:=Bb n.kind::n.mem.cells
abbrev CR(l:Ae Nt):Bl:=l.flatMap Nt.cells
def Vo(l:Ae Nt):Alz (CR l)=Alz l*6:=by
 induction l with
 |nil=>rfl
 |cons p l ih=>simp at ih ⊢;rw[ih];simp[Nt.cells,M.cells];omega
def zK(l:Ae Nt):∀u∈CR l,u.oneCell'=Af:=by
 intro u a;obtain⟨p,_,h⟩:=Oi.1 a;simp[Nt.cells,M.cells,List.mem_cons,List.not_mem_nil,or_false]at h;rcases h with rfl|rfl|rfl|rfl|rfl|rfl<;>rfl
def Bk.part{w:Ad}{b:Y}{T:Aw}{l l2:Bl}{o:Y}(h:Bk w b T l)(e:(l.drop o).take (Alz l2)=l2):∀j u,l2[j]? =J u->w.cell? ⟨b,o+j,Aa⟩=J u:=by
 intro j u a;apply h.I;grind
def yO(a b:M):([decide (a.g=b.g),decide (a.start=b.start),decide (a.p=b.p),decide (a.size=b.size),decide ((a.sum:H)=(b.sum:H))].all id)=decide (a=b):=by
 obtain⟨m,l,k,j,i⟩:=a;obtain⟨h,g,f,e,d⟩:=b;grind
def XX{m:M}:Jf ⟨1,m⟩=if Ds m then J (Ep m)else Aa:=by rfl
def UL{m:M}:Jf ⟨2,m⟩=if Cw m.g=0/\m=bare m.g then J m.g else Aa:=by rfl
def data3{k:H}{m:M}(h1:k≠1)(h2:k≠2):Jf ⟨k,m⟩=Aa:=by unfold Jf;grind
def kL{n:Nt}{s:Bg}(h:Jf n=J s):CJ n/\Ho n=s:=by
 refine⟨?_,?_⟩
 .unfold CJ;grind
 .unfold Ho;grind
def kK{n:Nt}(h:Jf n=Aa):¬CJ n:=by unfold CJ;grind
def Se(n:Nt)(v:Ah):Prop:=∃s,v=.tuple #[str s,.bool (decide (CJ n))]/\(CJ n->s=Ho n)
def oZ{n:Nt}{s:Bg}(h:Jf n=J s):Se n (.tuple #[str s,.bool Af]):=⟨s,by rw[AM (kL h).1],fun _=>(kL h).2.symm⟩
def Wd{n:Nt}(s:Bg)(h:Jf n=Aa):Se n (.tuple #[str s,.bool Ai]):=⟨s,by rw[AN (kK h)],fun q=>absurd q (kK h)⟩
def uq(n:Nt)(E:n.mem.q)(w:Ad):Bm eD 112 [.agg n.cells.toArray] w fun v w'=>Se n v/\Be w w':=by
 obtain⟨p,m⟩:=n;have g:m.q:=E;refine Bw Bh Z ntmps112 Bi Z ?_;refine(O 2) ?_;refine Dq Z Z Z ?_;rintro nb D C l d;refine(O 7) ?_;have k:=l.part (o:=1) (l2:=m.cells) Z;refine(O 8)<|Zi (fun A=>?_) fun A=>?_
 .have j:p=1:=A;subst j;refine(O 3∘Zv (Dj _ k)∘Zc (kR m g _)) ?_;rintro _ B⟨rfl,a⟩;refine(O 14∘BF) ?_;refine⟨?_,d.trans a⟩;by_cases h:Ds m
  .rw[kO h];exact oZ (by rw[XX,Aj h])
  .rw[kN h];exact Wd _ (by rw[XX,Ag h])
 .have j:¬p=1:=A;refine(O 5)<|Zi (fun y=>?_) fun y=>?_
  .have i:p=2:=y;subst i;refine(O 8) ?_;by_cases r:Cw m.g=0
   .have t:=OA _ g.g;rw[r]at t;refine(Yr 13 (fun w'=>Be w w'/\Bk w' _ 116 _) ⟨d.trans (Be.drew _),Ck⟩) fun f=>(Gv [0,1]∘Yc 2 (t _)) ?_;rintro _ B⟨rfl,a⟩;refine⟨⟨f.1.trans a,f.2.a a⟩,fun f=>?_⟩;refine(Gv [3,4]∘Zga 29 (e:=Z)∘Gv [5]∘Yw 6 (he:=by exact fun _ x=>Dj m.cells (x.2.part (o:=1) (l2:=m.cells) Z))∘Gv [7,8]∘Yw 9 (he:=by exact fun _ _=>TD iM Bi Bi Z Z (.cons Bc eT Z Z Z (Nr Bh) (.cons Bc io Z Z Z (KC Bh) (.cons Bc io Z Z Z (KC Bh) (.cons Bc io Z Z Z (KC io) (.cons Bc iN Z Z Z (KC iN) .nil))))) Z)∘Gv [10,11,12]∘Yd∘BF) ?_;refine⟨?_,f.1⟩;have e:=yO m (bare m.g);by_cases h:m=bare m.g
    .rw[AM h]at e;refine(AF (Se ⟨2,m⟩) ?_).mpr (oZ (s:=m.g) (by rw[UL,Aj ⟨r,h⟩]));exact AF (fun q=>Value.tuple #[str m.g,.bool q]) e
    .rw[AN h]at e;refine(AF (Se ⟨2,m⟩) ?_).mpr (Wd m.g (by rw[UL,Ag (fun q=>h q.2)]));exact AF (fun q=>Value.tuple #[str m.g,.bool q]) e
   .have G:Cw m.g=140:=(UE _).resolve_left r;have t:=OA m.g g.g;refine(Yr 13 (fun w'=>Be w w'/\Bk w' nb 116 (Nt.cells ⟨2,m⟩)) ⟨d.trans (Be.drew _),l.drew⟩) fun f=>(Gv [0,1]∘Yc 2 (t D.drew)) ?_;rintro _ B⟨rfl,a⟩;refine⟨⟨f.1.trans a,f.2.a a⟩,fun f=>?_⟩;refine(Gv [3,4]∘Ng 29∘Gv [5,6,7,8,9,10,11,12]∘Yd∘BF) ?_;exact⟨Wd m.g (by rw[UL,Ag (fun q=>r q.1)]),f.1⟩
  .have i:¬p=2:=y;refine(O 7∘BF) ?_;exact⟨Wd [] (data3 j i),d⟩
end

section
open Rec Pth Dsk Wal
def zC{g i:H}{d:Bg}:FM ⟨1,g,i,d⟩=if(EA (Alz d+1) d []).2=0/\Alz (EA (Alz d+1) d []).1=1 then J ⟨1,(EA (Alz d+1) d []).1.getD 0 (bare [])⟩else Aa:=by
 rfl
def zD{g i:H}{d:Bg}:FM ⟨2,g,i,d⟩=if Cw d=0 then J ⟨2,bare d⟩else Aa:=by
 rfl
def zE{k:Y}{g i:H}{d:Bg}(h1:k≠1)(h2:k≠2):FM ⟨k,g,i,d⟩=Aa:=by
 unfold FM;grind
def zH(x:R)(hk:x.kind<=255)(hd:Alz x.data<=1000)(w:Ad):Bm eD 78 [.agg x.cells.toArray] w fun v w'=>(∃n:Nt,v=.tuple #[.agg n.cells.toArray,.bool (FM x).isSome]/\∀n',FM x=J n'->n'=n)/\Be w w':=by
 obtain⟨y,g,S,d⟩:=x;have a5:y<=255:=hk;have a6:Alz d<=1000:=hd;have T:∀n,FM _=J n->∃n0:Nt,Value.tuple #[.agg _,.bool Af]=.tuple #[.agg n0.cells.toArray,.bool (FM ⟨y,g,S,d⟩).isSome]/\∀n',FM ⟨y,g,S,d⟩=J n'->n'=n0:=fun n h=>⟨n,by rw[h];rfl,Bf⟩;have no:FM ⟨y,g,S,d⟩=Aa->∃n0:Nt,Value.tuple #[.agg _,.bool Ai]=.tuple #[.agg n0.cells.toArray,.bool (FM _).isSome]/\∀n',FM ⟨y,g,S,d⟩=J n'->n'=n0:=fun h=>⟨⟨0,bare []⟩,by rw[h];rfl,Bf⟩;refine Bw Bh Z ntmps78 Bi Z ?_;refine(O 2) ?_;refine Dq Z Z Z ?_;rintro xb w1 a4 N ab;replace N:=N;refine(Zn) ?_;rintro rb w2 a3 E W;refine(O 5) ?_;have aj:=N.a W;refine(O 3∘Zn) ?_;rintro nb w3 a2 ao C;refine(Zs ao (hlt:=Bq _)) ?_;rintro w4 ai K;refine(O 5) ?_;have x2:=ab.trans W;have x3:=x2.trans C;have x4:Be w _:=Bp x3 K x3.size (fun k hk=>by simp at hk;have:=x2.size;omega);have a1:=(aj.a C).j K (by simp;have:=aj.lt;omega);have D:=(E.a C).j K (by simp;have:=E.lt;omega);have af:nb≠rb:=by have:=E.lt;omega
 have z1:=ab.size;have z2:=x2.size;refine(O 8)<|Zi (fun h1=>?_) fun h1=>?_
 .have Q:=X;subst Q;refine(O 4∘Zc (kS d X _)) ?_;rintro _ w5⟨vs,rfl,B,f⟩;refine(O 8) ?_;have e1:=zC (g:=g) (i:=S) (d:=d);have q:=D.a f;have G:=ai.a f;have r:=x4.trans f;generalize(EA _ d _).2=er at e1;generalize(EA _ d _).1=l at B e1;obtain⟨A,c,rfl,_,al⟩:=B.slice;refine(O 4)<|Zd 24 (fun q1=>?_) fun q1=>?_
  .refine(O 9∘Zs q (hlt:=X)) ?_;rintro t e a;refine(O 2∘Dx e) ?_;exact⟨no Bf,Bp r a r.size Bf⟩
  .refine(O 5)<|Zi (fun q2=>?_) fun q2=>?_
   .refine(O 3∘Zs q (hlt:=X)) ?_;rintro t e a;refine(O 2∘Dx e) ?_;exact⟨no Bf,Bp r a r.size Bf⟩
   .have a0:Alz l=1:=X;obtain⟨m,rfl⟩:=List.length_eq_one_iff.1 a0;obtain⟨b,o,rfl,_,L⟩:=Sl.flat (cells:=M.cells) al (c:=5) (fun _=>rfl) Bh (Nat.zero_lt_succ _:0<Alz [m]);refine(O 4∘Zv (Dj m.cells L)∘O 1∘Zs G (hlt:=Bq _)) ?_;rintro t p a;refine(O 4) ?_;replace p:Bk t nb 116 (Nt.cells ⟨1,m⟩):=p;have e:=q.j a (by simp;exact af.symm);have V:Be w t:=Bp r a r.size (fun k hk=>by simp at hk;omega);refine(Zv (BX p)∘Zs e (hlt:=Bq _)) ?_;rintro w7 j I;refine(O 2) ?_;replace j:Bk w7 rb 116 (Nt.cells ⟨1,m⟩):=j;refine(Dx j) ?_;exact⟨T _ Bf,Bp V I V.size (fun k hk=>by simp at hk;omega)⟩
 .have Q:¬y=1:=X;refine(O 5)<|Zi (fun h2=>?_) fun h2=>?_
  .have P:y=2:=X;subst P;have e2:=zD (g:=g) (i:=S) (d:=d);have a7:=UE d;refine(O 5∘Zc (OA d X w4)) ?_;rintro _ w5⟨rfl,f⟩;refine(O 2) ?_;have q:=D.a f;have G:=ai.a f;have a8:=a1.a f;have r:=x4.trans f;refine Zi (fun q1=>?_) fun q1=>?_
   .refine(O 3∘Zs q (hlt:=Bq _)) ?_;rintro t e a;refine(O 2∘Dx e) ?_;exact⟨no Bf,Bp r a r.size (fun k hk=>by simp at hk;omega)⟩
   .refine(O 6∘Zt G) ?_;rintro t p a;refine(O 4) ?_;replace p:Bk t nb 116 (Nt.cells ⟨2,bare d⟩):=p;have e:=q.j a (by simp;exact af.symm);have V:Be w t:=Bp r a r.size (fun k hk=>by simp at hk;omega);refine(Zv (BX p)∘Zs e (hlt:=Bq _)) ?_;rintro w7 j I;refine(O 2) ?_;replace j:Bk w7 rb 116 (Nt.cells ⟨2,bare d⟩):=j;refine(Dx j) ?_;exact⟨T _ Bf,Bp V I V.size (fun k hk=>by simp at hk;omega)⟩
  .have P:¬y=2:=X;refine(O 3∘Zs D (hlt:=Bq _)) ?_;rintro t e a;refine(O 2∘Dx e) ?_;exact⟨no (zE Q P),Bp x4 a x4.size (fun k hk=>by simp at hk;omega)⟩
def mO(gen:H)(w:Ad):Bm eD 76 [Bb gen] w fun v w'=>v=.bool (decide (¬JI gen))/\w=w':=by
 refine Bw func76 Z ntmps76 (by rfl) Z ?_;refine(O 9)<|Zd 5 (fun a=>?_) fun a=>?_
 .refine(O 5∘Bu) ?_;refine⟨AF Value.bool (decide_eq_decide.2 ?_),Z⟩;unfold JI;omega
 .refine(O 5∘Bu) ?_;refine⟨AF Value.bool (AN ?_).symm,Z⟩;unfold JI;omega
def zB{n:Nt}(h:CJ n):n.kind=1∨n.kind=2:=(SL h).2
def si{D:Dv}(hD:D.q){k:Y}(bc:Sm D k)(hk:k<=900000000)(B b:Y)(gen at_:H)(g0:-9223372036854775808<=gen)(g1:gen<=9223372036854775807)(a0:-9223372036854775808<=at_)(a1:at_<=9223372036854775807)(l:Ae Nt)(hl:Alz l<=140737488355328)(bj:∀n∈l,n.mem.q)(A:Av AB)(c C:Y)(w:Ad)(h:Ce w B b D)(hs:Sl w C A (CR l)):
 Bm eD 87 [.pointer (J ⟨b,0,Aa⟩),Bb gen,Bb at_,.slice A (Alz l) c] w fun v w'=>v=.tuple #[Bb (Fw D gen at_ l).2.1,Bb (((Fw D gen at_ l).2.2:Y):H)]/\Ce w' B b (Fw D gen at_ l).1/\Tm w w' B Cb:=by
 have b5:=hD.cap
 have I:∀w',Be w w'->(Iv gen at_ (Alz l)∨∃n∈l,¬CJ n)->(Value.tuple #[Bb 0,Bb 210]=.tuple #[Bb (Fw D gen at_ l).2.1,Bb (((Fw D gen at_ l).2.2:Y):H)]/\Ce w' B b (Fw D gen at_ l).1/\Tm w w' B Cb):=fun w' N q=>by
  rw[sh q];exact⟨Z,h.a N,Tm.Akj N _ _⟩
 refine Bw func87 Z ntmps87 (by rfl) Z ?_;refine(O 9∘Zc (HQ h hD)) ?_;rintro _ _⟨rfl,rfl⟩;refine(O 2)<|Zi (fun h0=>?_) fun h0=>?_
 .omega
 .refine(O 5∘Zc (mO gen w)) ?_;rintro _ _⟨rfl,rfl⟩;refine(O 2)<|Zd 29 (fun b0=>?_) fun b0=>?_
  .refine(O 26∘BF) ?_;exact I _ (Be.refl _) (.inl (by unfold JI at b0;unfold Iv;omega))
  .unfold JI at b0;refine(O 4)<|Zd 33 (fun b1=>?_) fun b1=>?_
   .refine(O 22∘BF) ?_;exact I _ (Be.refl _) (.inl (by unfold Iv;omega))
   .refine(O 4)<|Zd 37 (fun b2=>?_) fun b2=>?_
    .refine(O 18∘BF) ?_;exact I _ (Be.refl _) (.inl (by unfold Iv;omega))
    .refine(O 5)<|Zd 42 (fun b3=>?_) fun b3=>?_
     .refine(O 13∘BF) ?_;exact I _ (Be.refl _) (.inl (by unfold Iv;omega))
     .refine(O 7)<|Zi (fun b4=>?_) fun b4=>?_
      .refine(O 5∘BF) ?_;exact I _ (Be.refl _) (.inl (by unfold Iv;omega))
      .obtain⟨a,rfl⟩:=ES (show 0<=at_ by omega);obtain⟨g,rfl⟩:=ES (show 0<=gen by omega);have nb:¬Iv (g:H) (a:H) (Alz l):=by unfold Iv;omega
       refine(O 12)<|Lc (fun((v,wr):Ah×Ad)=>((∀n∈l,CJ n)/\Bn wr w.heap.size 9 1 v (Alz l) ((Gx g a l).map str)/\Be w wr,[(0,.pointer (J ⟨b,0,Aa⟩)),(1,Bb g),(2,Bb a),(3,.slice A (Alz l) c),(10,v)],wr)) ?_ ?_
       .refine(O 1)<|Lo (fun((i,v,wr):Y×Ah×Ad)=>(i<=Alz l/\(∀n∈l.take i,CJ n)/\Bn wr w.heap.size 9 1 v i ((Gx g a (l.take i)).map str)/\Be w wr,[(0,.pointer (J ⟨b,0,Aa⟩)),(1,Bb g),(2,Bb a),(3,.slice A (Alz l) c),(10,v),(49,.slice A (Alz l) c),(50,Bb ((Alz l:Y):H)),(51,Bb i)],wr,Alz l-i)) (0,(.slice Aa 0 0),w) ?_ ?_
        .exact⟨X,Bh,Bn.nil _ _ _ _,Be.refl _⟩
        .rintro⟨i,v,wr⟩⟨hi,y,p,N⟩;refine(O 5)<|Zi (fun t=>?_) fun t=>?_
         .obtain⟨bb,o,rfl,_,m⟩:=(hs.a N).flat (c:=6) (fun _=>rfl) Bc t;have al:l.take (i+1)=l.take i++[l[i]]:=(CX t).symm;have a3:=bj l[i] (BL t);have a6:l[i]∈l:=BL t;have a5:Alz (l.take i)=i:=by rw[BW];omega
          have a2:Gx g a (l.take (i+1))=Gx g a (l.take i)++[text (l[i]).kind.toNat g (a+i) (Ho l[i])]:=by rw[al,mJ,a5]
          generalize l[i]=n at a3 a6 m al a2;refine(O 7∘Zv (Dj n.cells m)∘Zn) ?_;rintro pb w1 a7 bh G;refine(O 1∘Zs bh (hlt:=Bq _)) ?_;rintro w2 Q a4;refine(O 3) ?_;replace Q:Bk w2 pb 116 n.cells:=Q;have x2:Be w w2:=Bp (N.trans G) a4 (N.trans G).size (fun k hk=>by simp at hk;have:=N.size;omega);refine(Zv (BX Q)∘Zc (uq n a3 w2)) ?_;rintro _ w3⟨⟨s,rfl,bd⟩,x⟩;refine(O 12)<|Zi (fun e=>?_) fun e=>?_
          .refine(O 5∘BF) ?_;exact I _ (x2.trans x) (.inr ⟨n,a6,e⟩)
          .have e:CJ n:=Dd.1 e;obtain rfl:=bd e;have b8:=zB e;have b7:=(SL e).1;have bf:=Q.a x;have x3:=x2.trans x;have d:=((p.a G).j a4 (fun k hk=>by simp;have:=p.lt k hk;omega)).a x;obtain⟨kd,W⟩:=ES (show 0<=n.kind by omega);have b9:1<=kd/\kd<=255:=X;have bs:Bk w3 pb 116 (Bb (kd:H)::n.mem.cells):=by rw[<-W];exact bf
           have e1:Fa kd (g:H) ((a+i:Y):H) (Ho n)=(text n.kind.toNat g (a+i) (Ho n),0):=by
            unfold Fa;rw[Ag (by unfold bad;omega),W];rfl
           have ce:=US kd X (g:H) ((a+i:Y):H) (Ho n) X w3;rw[e1]at ce;refine(O 11∘Zc ce) ?_;rintro _ w4⟨rfl,ai⟩;refine(O 9∘Hk (x3.trans ai) (d.a ai)) ?_;rintro _ v5 w5 bi b6 _ _;refine(O 7)<|Lb ((i+1),v5,w5) ?_;grind
         .obtain rfl:i=Alz l:=X;rw[DY]at y p;refine(O 1∘Lm (v,wr)) ?_;grind
       .rintro⟨v,wr⟩⟨y,p,N⟩;have bx:Alz l<=19:=X;have ca:g<=4611686018427387904:=X
        have ec:Fa 3 (g:H) ((a+Alz l:Y):H) [BV (Alz l)]=(text 3 g (a+Alz l) [BV (Alz l)],0):=by
         unfold Fa;rw[Ag (by unfold bad;grind)];rfl
        have el:Fw D (g:H) (a:H) l=(let r:=writes D (10+a) (txs g a l);if r.2=0 then(if r.1.w.2=0 then(r.1.w.1,(a:H)+Alz l+1,0)else(r.1.w.1,0,r.1.w.2))else(r.1,0,r.2)):=eG nb y;have V:=We (g:=g) (i:=a) y;have bl:=IJ g a l;have a8:Gx g a l++[text 3 g (a+Alz l) [BV (Alz l)]]=txs g a l:=rfl;generalize txs g a l=T at el V bl a8;refine(O 10) ?_;refine Ks 1 Z Z im CE Z Z Z Z (by rfl) Bc ?_;rintro sb w1 a7 bn G;refine(Zv (DR (QQ bn X))) ?_;have ce:=US 3 X (g:H) ((a+Alz l:Y):H) [BV (Alz l)] Bh w1;rw[ec]at ce;refine(Zc ce) ?_;rintro _ w2⟨rfl,aj⟩;refine(O 11) ?_;have x2:=(N.trans G).trans aj;have es:(Gx g a l).map str++[str (text 3 g (a+Alz l) [BV (Alz l)])]=T.map str:=by rw[<-a8,DW];rfl
        refine(Hk x2 ((p.a G).a aj)) ?_;rintro _ v3 w3 d x _ _;replace d:Bn w3 w.heap.size 9 1 v3 (Alz l+1) ((Gx g a l).map str++[str (text 3 g (a+Alz l) [BV (Alz l)])]):=d;rw[es]at d;obtain⟨A3,c3,rfl,cb,_⟩:=d.slice;refine(O 4)<|Lo (fun((i,E,wr):Y×Dv×Ad)=>(i<=Alz l+1/\E.q/\Sm E (k+i)/\writes E (10+a+i) (T.drop i)=writes D (10+a) T/\Ce wr B b E/\Tm w wr B Cb/\Bn wr w.heap.size 9 1 (.slice A3 (Alz l+1) c3) (Alz l+1) (T.map str),[(0,.pointer (J ⟨b,0,Aa⟩)),(2,Bb a),(3,.slice A (Alz l) c),(97,.slice A3 (Alz l+1) c3),(98,Bb (((Alz l+1):Y):H)),(99,Bb i)],wr,Alz l+1-i)) (0,D,w3) ?_ ?_
        .exact⟨X,hD,bc,Z,h.a x,Tm.Akj x _ _,d⟩
        .rintro⟨i,E,wr⟩⟨hi,hE,af,S,ab,P,K⟩;refine(O 5)<|Zi (fun t=>?_) fun t=>?_
         .have L:i<Alz T:=X;have bm:T.drop i=T[i]::T.drop (i+1):=DD L;have bq:=V T[i] (BL L);have a9:(T.map str)[i]? =J (str T[i]):=by rw[DV,BQ L];rfl
          rw[bm,Tw]at S;generalize T[i]=s at S bq a9;obtain⟨A4,c4,e4,_,ao⟩:=K.slice;cases e4;obtain⟨bb,o,rfl,_,m⟩:=ao.at_ Bf;refine(O 7∘Zv (BR (m i _ a9))∘O 11) ?_;have cw:=PE ab hE (af.small X) ((10+a+i:Y):H) X X s X;refine(Zc cw) ?_;rintro _ w5⟨rfl,f,j⟩;refine(O 7)<|Zi (fun he=>?_) fun he=>?_
          .rw[Ag X]at S;refine(O 6∘BF) ?_;rw[el,<-S];simp only;rw[Ag X];exact⟨Z,f,P.trans j⟩
          .rw[Aj X]at S;refine(O 6)<|Lb ((i+1),((E.write ((10+a+i:Y):H) s).1),w5) ?_;exact⟨X,NR hE _ _,PF af _ _,S,f,P.trans j,j.y K Bc⟩
         .obtain rfl:i=Alz l+1:=X;rw[La X]at S;have ba:writes D (10+a) T=(E,0):=S.symm;rw[ba]at el;simp only[if_true]at el;refine(O 5∘Zc (Tp ab hE (af.small X))) ?_;rintro _ w5⟨rfl,f,j⟩;refine(O 7)<|Zi (fun he=>?_) fun he=>?_
          .rw[Ag X]at el;refine(O 6∘BF) ?_;rw[el];exact⟨Z,f,P.trans j⟩
          .rw[Aj X]at el;refine(O 11∘BF) ?_;rw[el];exact⟨Z,f,P.trans j⟩
end
namespace Wal
open Rec Pth Dsk
def EL(gen:H)(rd:Y->By)(m:Y):Y->Y->Ae Nt->Y
 |0,_,_=>0
 |f+1,i,op=>
  if i<m then
   let x:=Cu (rd i)
   if x.2≠0∨x.1.gen≠gen∨x.1.index≠i then 1
   else if x.1.kind=3 then(if op=[]∨x.1.data≠[BV (Alz op)]then 1 else EL gen rd m f (i+1) []+1)
   else match FM x.1 with
    |some n=>EL gen rd m f (i+1) (op++[n])+1
    |none=>1
  else 0
def KM(D:Dv)(gen:H):Y:=if JI gen then 0 else if D.dead then 0 else EL gen (fun i=>sec D.now (10+i)) (Ek D.now) 21 0 []
def Fo(D:Dv)(gen:H):Dv:={ D with calls:=D.calls+KM D gen }
def aI(gen:H)(rd:Y->By)(m:Y):∀(f i:Y) (op:Ae Nt),EL gen rd m f i op<=f
 |0,_,_=>Bq _
 |f+1,i,op=>by
  have h1:=aI gen rd m f (i+1) [];rw[EL];split
  .simp only;split
   .omega
   .split
    .grind
    .split
     .rename_i n _;have h2:=aI gen rd m f (i+1) (op++[n]);omega
     .omega
  .omega
def Aca(D:Dv)(gen:H):KM D gen<=21:=by
 unfold KM;split
 .omega
 .split
  .omega
  .exact aI _ _ _ _ _ _
def Acn{D:Dv}(h:D.q)(gen:H):(Fo D gen).q:=⟨h.cap,h.kept,h.now,h.keptM,h.nowM,h.pend⟩
def Aco{D:Dv}{k:Y}(h:Sm D k)(gen:H):Sm (Fo D gen) (k+21):=
 ⟨by have h1:=h.calls;have h2:=Aca D gen;show D.calls+KM D _<=_;omega,by have h1:=h.pend;show Alz D.pend<=_;omega,h.at_,h.keep⟩
section
variable{gen:H}{rd:Y->By}{m f i:Y}{op:Ae Nt}{out:Ae (Ae Nt)}{b:Y}{x:R}{e:Y}
def rep_0(h:¬i<m):CK gen rd m (f+1) i op out b=(out,b)/\EL gen rd m (f+1) i op=0:=by
 rw[CK,EL,Ag h,Ag h];simp
def rep_1(h:i<m)(hx:Cu (rd i)=(x,e))(h2:e≠0∨x.gen≠gen∨x.index≠i):CK gen rd m (f+1) i op out b=(out,b)/\EL gen rd m (f+1) i op=1:=by
 rw[CK,EL,Aj h,Aj h,hx];grind
def rep_2(h:i<m)(hx:Cu (rd i)=(x,e))(h2:¬(e≠0∨x.gen≠gen∨x.index≠i))(d:x.kind=3)(a:op=[]∨x.data≠[BV (Alz op)]):CK gen rd m (f+1) i op out b=(out,b)/\EL gen rd m (f+1) i op=1:=by
 rw[CK,EL,Aj h,Aj h,hx];grind
def rep_3(h:i<m)(hx:Cu (rd i)=(x,e))(h2:¬(e≠0∨x.gen≠gen∨x.index≠i))(d:x.kind=3)(a:¬(op=[]∨x.data≠[BV (Alz op)])):
 CK gen rd m (f+1) i op out b=CK gen rd m f (i+1) [] (out++[op]) (i+1)/\EL gen rd m (f+1) i op=EL gen rd m f (i+1) []+1:=by
 rw[CK,EL,Aj h,Aj h,hx];grind
def rep_4(h:i<m)(hx:Cu (rd i)=(x,e))(h2:¬(e≠0∨x.gen≠gen∨x.index≠i))(d:¬x.kind=3)(a:FM x=Aa):CK gen rd m (f+1) i op out b=(out,b)/\EL gen rd m (f+1) i op=1:=by
 rw[CK,EL,Aj h,Aj h,hx];grind
def rep_5{n:Nt}(h:i<m)(hx:Cu (rd i)=(x,e))(h2:¬(e≠0∨x.gen≠gen∨x.index≠i))(d:¬x.kind=3)(a:FM x=J n):
 CK gen rd m (f+1) i op out b=CK gen rd m f (i+1) (op++[n]) out b/\EL gen rd m (f+1) i op=EL gen rd m f (i+1) (op++[n])+1:=by
 rw[CK,EL,Aj h,Aj h,hx];grind
end
end Wal
section
open Rec Pth Dsk Wal
abbrev Txl:=Ae (Ae Nt)
def HO(w:Ad)(B:Y):Bl->Ae (Ae Nt)->Prop
 |[],[]=>True
 |v::vs,l::ls=>Bn w B 116 6 v (Alz l) (CR l)/\HO w B vs ls
 |_,_=>False
def HO.len{w:Ad}{B:Y}:∀{vs:Bl} {ls:Ae (Ae Nt)},HO w B vs ls->Alz vs=Alz ls
 |[],[],_=>rfl
 |v::vs,l::ls,⟨_,h2⟩=>by simp[HO.len h2]
 |[],_::_,h=>h.elim
 |_::_,[],h=>h.elim
def HO.snoc{w:Ad}{B:Y}:∀{vs:Bl} {ls:Ae (Ae Nt)} {v:Ah} {l:Ae Nt},HO w B vs ls->Bn w B 116 6 v (Alz l) (CR l)->HO w B (vs++[v]) (ls++[l])
 |[],[],_,_,_,h=>⟨h,Ay⟩
 |c::cs,v::vs,_,_,⟨h1,h2⟩,h=>⟨h1,HO.snoc h2 h⟩
 |[],_::_,_,_,h,_=>h.elim
 |_::_,[],_,_,h,_=>h.elim
def HO.j{w w':Ad}{B:Y}{S:Bj}(hm:Mo w w' S):∀{vs:Bl} {ls:Ae (Ae Nt)},(∀v∈vs,∀k,Pi v=J k->k∉S)->HO w B vs ls->HO w' B vs ls
 |[],[],_,h=>h
 |v::vs,l::ls,hS,⟨h1,h2⟩=>⟨h1.j hm Bf,HO.j hm Bf h2⟩
 |[],_::_,_,h=>h.elim
 |_::_,[],_,h=>h.elim
def HO.a{w w':Ad}{B:Y}(hx:Be w w'):∀{vs:Bl} {ls:Ae (Ae Nt)},HO w B vs ls->HO w' B vs ls
 |[],[],h=>h
 |v::vs,l::ls,⟨h1,h2⟩=>⟨h1.a hx,HO.a hx h2⟩
 |[],_::_,h=>h.elim
 |_::_,[],h=>h.elim
def HO.tm{w w':Ad}{B C:Y}{p:Aw->Ar}(h:Tm w w' C p)(hp:p 116=Ai):∀{vs:Bl} {ls:Ae (Ae Nt)},HO w B vs ls->HO w' B vs ls
 |[],[],h=>h
 |v::vs,l::ls,⟨h1,h2⟩=>⟨h.y h1 hp,HO.tm h hp h2⟩
 |[],_::_,h=>h.elim
 |_::_,[],h=>h.elim
def HO.lt{w:Ad}{B:Y}:∀{vs:Bl} {ls:Ae (Ae Nt)},HO w B vs ls->∀v∈vs,∀k,Pi v=J k->B<=k/\k<w.heap.size/\∃l,Bk w k 116 l
 |v::vs,l::ls,⟨h1,h2⟩,u,hu,k,hk=>by
  rcases List.mem_cons.1 hu with rfl|hu
  .exact⟨(h1.lt k hk).1,(h1.lt k hk).2,(h1.K k hk).2⟩
  .exact HO.lt h2 u hu k hk
 |[],_::_,h,_,_,_,_=>h.elim
 |_::_,[],h,_,_,_,_=>h.elim
 |[],[],_,u,hu,_,_=>by grind
def Ce.tm{w w':Ad}{B b C:Y}{D:Dv}{p:Aw->Ar}(h:Ce w B b D)(t:Tm w w' C p)(p1:p 85=Ai)(p2:p 5=Ai)(f:p 137=Ai)(e:p 4=Ai)(d:p 3=Ai)(a:p 9=Ai):Ce w' B b D:=by
 obtain⟨y,x,v,r,q,o,n,m,l,k,j,i,g⟩:=h;exact⟨_,_,_,_,_,o,t.bk n p1,t.y m p2,t.y l p2,k,t.y j f,i.tm t d a,t.y g e⟩
def uy(s:Bg)(a:Alz s<=512):(Cu s).1.kind<=255/\(Cu s).1.data.length<=512:=by
 unfold Cu;split
 .refine⟨?_,?_⟩
  .have:=(s.getD 4 0).toNat_lt;show(s.getD 4 0).toNat<=255;omega
  .show Alz ((s.drop 19).take _)<=512;grind
 .exact⟨Bc,Bc⟩
def Aep(s:Bg)(i:Y):Alz (sec s i)<=512:=by unfold sec;grind
def yA(s:Bg)(i:Y):i<Ek s↔i<20/\10+i<Alz s/512:=by unfold Ek;omega
def WA(w:Ad)(B:Y)(r:Ae (Ae Nt)×Y)(e:Y)(v:Ah):Prop:=
 ∃vt vs,v=.tuple #[vt,Bb (r.2:H),Bb (e:H)]/\Bn w B 93 1 vt (Alz r.1) vs/\HO w B vs r.1
def jn(w:Ad)(B e:Y):WA w B ([],0) e (.tuple #[.slice Aa 0 0,Bb 0,Bb (e:H)]):=⟨_,[],Z,Bn.nil _ _ _ _,Ay⟩
def Acm{D:Dv}(hD:D.q){k:Y}(a1:Sm D k)(hk:k<=900000000)(B b:Y)(gen:H)(w:Ad)(h:Ce w B b D):
 Bm eD 41 [.pointer (J ⟨b,0,Aa⟩),Bb gen] w fun v w'=>WA w' w.heap.size (JX D gen).1 (JX D gen).2 v/\Ce w' B b (Fo D gen)/\Tm w w' B Cb:=by
 have c8:=hD.cap;have E:KM D gen=0->Fo D gen=D:=fun e=>by unfold Fo;simp_all
 refine Bw Bh Z ntmps41 (by rfl) Z ?_;refine(O 11∘Zc (HQ h hD)) ?_;rintro _ _⟨rfl,rfl⟩;refine(O 2)<|Zi (fun h0=>?_) fun h0=>?_
 .omega
 .refine(O 5∘Zc (mO _ w)) ?_;rintro _ _⟨rfl,rfl⟩;refine(O 2)<|Zi (fun hg=>?_) fun hg=>?_
  .have hb:JI gen:=Dd.1 hg;have e1:JX D gen=(([],0),210):=by unfold JX;rw[Aj hb]
   have e2:KM D gen=0:=by unfold KM;rw[Aj hb]
   refine(O 6∘Cy) ?_;rw[e1,E e2];exact⟨jn _ _ 210,h,Tm.refl _ _ _⟩
  .have hb:¬JI gen:=fun q=>hg (not_not_intro q);refine(O 5∘Zc (Qt h hD)) ?_;rintro _ _⟨rfl,rfl⟩;refine(O 1) ?_;refine Ga Z (fun hd=>?_) (fun hd=>?_)
   .have e1:JX D gen=(([],0),190):=by unfold JX;rw[Ag hb,hd];rfl
    have e2:KM D gen=0:=by unfold KM;rw[Ag hb,hd];rfl
    refine(O 6∘Cy) ?_;rw[e1,E e2];exact⟨jn _ _ 190,h,Tm.refl _ _ _⟩
   .have e1:JX D gen=(CK gen (fun i=>sec D.now (10+i)) (Ek D.now) 21 0 [] [] 0,0):=by unfold JX;rw[Ag hb,hd];rfl
    have e2:KM D gen=EL gen (fun i=>sec D.now (10+i)) (Ek D.now) 21 0 []:=by unfold KM;rw[Ag hb,hd];rfl
    generalize hM:Ek D.now=m at e1 e2;have ck:=fun i=>yA D.now i;rw[hM]at ck;have c5:m<=20:=by rw[<-hM];unfold Ek;omega
    generalize hR:(fun i=>sec D.now (10+i))=rd at e1 e2;have ce:∀i,sec D.now (10+i)=rd i:=fun i=>by grind
    have S:∀(wr:Ad) (a:Ae (Ae Nt)) (p j:Y) (G:Ah) (C:Bl),CK gen rd m 21 0 [] [] 0=(a,p)->EL gen rd m 21 0 []=j->Ce wr B b { D with calls:=D.calls+j }->Bn wr w.heap.size 93 1 G (Alz a) C->HO wr w.heap.size C a->Tm w wr B Cb->(WA wr w.heap.size (JX D gen).1 (JX D gen).2 (.tuple #[G,Bb (p:H),Bb 0])/\Ce wr B b (Fo D gen)/\Tm w wr B Cb):=by
     intro wr a p j G C h1 h2 h3 h4 h5 h6;rw[e1,h1];refine⟨⟨G,C,Z,h4,h5⟩,?_,h6⟩;have e:Fo D gen={ D with calls:=D.calls+j }:=by unfold Fo;rw[e2,h2]
     rw[e];exact h3
    refine(O 21)<|Lo (fun((i,o,a,p,vo,G,wr):Y×(Ae Nt)×Txl×Y×Ah×Ah×Ad)=>((i<=20/\p<=20/\Alz o<=i/\Alz a<=i/\CK gen rd m 21 0 [] [] 0=CK gen rd m (21-i) i o a p/\EL gen rd m 21 0 []=EL gen rd m (21-i) i o+i/\Ce wr B b { D with calls:=D.calls+i }/\Bn wr w.heap.size 116 6 vo (Alz o) (CR o)/\Tm w wr B Cb/\∃C,Bn wr w.heap.size 93 1 G (Alz a) C/\HO wr w.heap.size C a/\(∀k,Pi vo=J k->∀v∈C,Pi v≠J k)),[(0,.pointer (J ⟨b,0,Aa⟩)),(1,Bb (gen:H)),(7,G),(8,vo),(9,Bb p),(10,Bb i)],wr,21-i)) (0,([]),([]),0,(.slice Aa 0 0),(.slice Aa 0 0),w) ?_ ?_
    .exact⟨X,X,Bh,Bh,Z,Z,h,Bn.nil _ _ _ _,Tm.refl _ _ _,[],Bn.nil _ _ _ _,Ay,fun k hk=>by simp[Pi]at hk⟩
    .rintro⟨i,o,a,p,vo,G,wr⟩⟨hi,db,da,c9,bm,bn,bb,cf,cu,C,cg,ct,c4⟩;have hE:Dv.q { D with calls:=D.calls+i }:=⟨hD.cap,hD.kept,hD.now,hD.keptM,hD.nowM,hD.pend⟩;have cv:Sm { D with calls:=D.calls+i } (k+20):=⟨by have:=a1.calls;grind,by have:=a1.pend;grind,a1.at_,a1.keep⟩;obtain⟨f,hf⟩:∃f,21-i=f+1:=⟨20-i,X⟩;have a4:f=21-(i+1):=X;rw[hf]at bm bn
     have over:¬i<m->(CK gen rd m 21 0 [] [] 0=(a,p)/\EL gen rd m 21 0 []=i):=fun q=>by
      obtain⟨V,T⟩:=rep_0 (gen:=gen) (rd:=rd) (f:=f) (op:=o) (out:=a) (b:=p) q;grind
     refine(O 6)<|Zd 26 (fun c1=>?_) fun c1=>?_
     .refine(O 3∘Zc (Nv bb hE)) ?_;rintro _ _⟨rfl,rfl⟩;refine(O 3)<|Zi (fun c2=>?_) fun c2=>?_
      .have ao:i<m:=(ck i).2 ⟨X,c2⟩
       have er:Dv.read { D with calls:=D.calls+i } ((10+i:Y):H)=({ D with calls:=D.calls+(i+1) },rd i,0):=by
        unfold Dv.read;rw[Ag Bf,Ag X,<-ce];rfl
       have cr:=mF bb hE (cv.small X) ((10+i:Y):H) X X;rw[er]at cr;have cw:Alz (rd i)<=512:=by rw[<-ce];exact Aep _ _
       refine(O 8∘Zc cr) ?_;rintro _ w5⟨rfl,b0,N⟩;refine(O 12) ?_;have bs:=N.y cf Z;have bx:=N.y cg Z;have cb:=ct.tm N Z;have b5:=cu.trans N;have z5:=b5.size;have cd:=gx (rd i) w5;have b1:=uy (rd i) cw;rcases hde:Cu (rd i)with⟨x,ee⟩;rw[hde]at cd b1
       have stop:(ee≠0∨x.gen≠gen∨x.index≠i)->(CK gen rd m 21 0 [] [] 0=(a,p)/\EL gen rd m 21 0 []=i+1):=fun q=>by
        obtain⟨V,T⟩:=rep_1 (f:=f) (op:=o) (out:=a) (b:=p) ao hde q;grind
       refine(Ci 43 (e:=by simp)∘O 5∘Zc cd) ?_;rintro _ w6⟨rfl,bi⟩;refine(O 3) ?_;have c3:x.kind<=255:=b1.1;have dc:Alz x.data<=512:=b1.2;refine(Zn) ?_;rintro xb w7 c7 b9 ca;refine(Zs b9 (hlt:=Bq _)) ?_;rintro w8 b3 cx;refine(O 4) ?_;replace b3:Bk w8 xb 144 x.cells:=b3;have x8:Be w5 w8:=Bp (bi.trans ca) cx (bi.trans ca).size (fun k hk=>by simp at hk;have:=bi.size;omega);have L:=bs.a x8;have d:=bx.a x8;have r:=cb.a x8;have l:=b0.a x8;have I:=b5.trans (Tm.Akj x8 B Cb);have z8:=I.size;refine(O 4)<|Zd 52 (fun s1=>?_) fun s1=>?_
       .refine(O 22∘Cy) ?_;obtain⟨V,T⟩:=stop (.inl X);exact S w8 a p (i+1) G C V T l d r I
       .refine(O 6)<|Zd 58 (fun s2=>?_) fun s2=>?_
        .refine(O 16∘Cy) ?_;obtain⟨V,T⟩:=stop (.inr (.inl s2));exact S w8 a p (i+1) G C V T l d r I
        .refine(O 6)<|Zi (fun s3=>?_) fun s3=>?_
         .refine(O 9∘Cy) ?_;obtain⟨V,T⟩:=stop (.inr (.inr s3));exact S w8 a p (i+1) G C V T l d r I
         .have a7:¬(ee≠0∨x.gen≠gen∨x.index≠i):=X;refine(O 9)<|Zi (fun k3=>?_) fun k3=>?_
          .have ai:x.kind=3:=X
           have af:(o=[]∨x.data≠[BV (Alz o)])->(CK gen rd m 21 0 [] [] 0=(a,p)/\EL gen rd m 21 0 []=i+1):=fun q=>by
            obtain⟨V,T⟩:=rep_2 (f:=f) (op:=o) (out:=a) (b:=p) ao hde a7 ai q;grind
           obtain⟨Ao,co,rfl,_,_⟩:=L.slice;refine(O 7)<|Zd 71 (fun t1=>?_) fun t1=>?_
           .refine(O 20∘Cy) ?_;obtain⟨V,T⟩:=af (.inl (Im X));exact S w8 a p (i+1) G C V T l d r I
           .refine(O 5) ?_;refine Ks 1 Z Z im CE Z Z Z Z (by rfl) Bc ?_;rintro sb w9 c6 cc t;have bq:=L.a t;have A:=d.a t;have a9:=r.a t;have a0:=l.a t;have bd:=I.trans (Tm.Akj t B Cb);have z9:=bd.size;refine(Zv (DR (QQ cc X))∘O 3)<|Zi (fun t2=>?_) fun t2=>?_
            .refine(O 9∘Cy) ?_;obtain⟨V,T⟩:=af (.inr t2);exact S w9 a p (i+1) G C V T a0 A a9 bd
            .have E:¬(o=[]∨x.data≠[BV (Alz o)]):=by
              rintro(q|q)
              .grind
              .grind
             obtain⟨r1,r2⟩:=rep_3 (f:=f) (op:=o) (out:=a) (b:=p) ao hde a7 ai E;refine(O 5∘Qk w.heap.size z9 A) ?_;rintro _ cs b4 cm ba c0;refine(O 12) ?_;have bf:=Tm.Akw A ba;have a2:=bf.y bq Bc;have bl:=a9.tm bf Bc;have a6:=a0.tm bf Bc Bc Bc Bc Bc Bc;have b7:=bd.fresh ba (fun k hk=>(A.lt k (FG.1 hk)).1);refine Lb ((i+1),([]),(a++[o]),(i+1),(.slice Aa 0 0:Ah),cs,b4) ?_;refine⟨X,X,Bh,Bv,?_,?_,a6,Bn.nil _ _ _ _,b7,C++[_],?_,bl.snoc a2,fun k hk=>by simp[Pi]at hk⟩
             .rw[bm,r1,a4]
             .rw[bn,r2,a4];omega
             .grind
          .have ai:¬x.kind=3:=X;refine(O 3∘Zv (BX b3)∘Zc (zH x c3 X w8)) ?_;rintro _ w9⟨⟨n,rfl,hn⟩,t⟩;refine(O 3∘Zn) ?_;rintro nb b4 cz ch a8;refine(Zs ch (hlt:=Bq _)) ?_;rintro bc aj cj;refine(O 8) ?_;replace aj:Bk bc nb 116 n.cells:=aj;have W:Be w8 bc:=Bp (t.trans a8) cj (t.trans a8).size (fun k hk=>by simp at hk;have:=t.size;omega);have y:=L.a W;have P:=d.a W;have K:=r.a W;have Q:=l.a W;have ab:=I.trans (Tm.Akj W B Cb);have cn:=ab.size;rcases E:FM x with _|n'
           .obtain⟨r1,r2⟩:=rep_4 (f:=f) (op:=o) (out:=a) (b:=p) ao hde a7 ai E;refine(O 10∘Cy) ?_;exact S bc a p (i+1) G C Bf X Q P K ab
           .obtain⟨r1,r2⟩:=rep_5 (f:=f) (op:=o) (out:=a) (b:=p) ao hde a7 ai E;obtain rfl:=hn n' E;refine(O 4∘Zv (BX aj)) ?_;refine rI (w.heap.size) Z Z (fun _=>rfl) Z iI MO Z Bc Bc Z Z (fun _=>rfl) (by rfl) (cn) (y) CB X ?_;rintro _ cq cp cl al b2;refine(O 8) ?_;have b8:=Tm.Akw y al;have a3:=b8.y P Bc;have bj:=K.j al (fun v hv k hk q=>c4 k (FG.1 q) v hv hk);have a5:=Q.tm b8 Bc Bc Bc Bc Bc Bc;have b6:=ab.fresh al (fun k hk=>(y.lt k (FG.1 hk)).1);have en:CR (o++[n'])=CR o++n'.cells:=Bh;refine Lb ((i+1),(o++[n']),a,p,cq,G,cp) ?_;refine⟨X,X,Bv,X,?_,?_,a5,?_,b6,C,a3,bj,?_⟩
            .rw[bm,r1,a4]
            .rw[bn,r2,a4];omega
            .simp;omega
            .intro k hk v hv q;rcases b2 with e|⟨g,e,hg⟩
             .grind
             .rw[e]at hk;cases hk;have:=(K.lt v hv _ q).2.1;omega
      .refine(O 9∘Cy) ?_;grind
     .refine(O 17∘Cy) ?_;grind
end
section
open Go.MapKept Srt
section
variable{α:Type}
def yP{A:Ae (By×α)}{s p:By}{v u:α}:(p,u)∈Hp A s v↔(p=s/\u=v)∨(p≠s/\(p,u)∈A):=by
 unfold Hp;grind
def yN{A:Ae (By×α)}{s p:By}{u:α}:(p,u)∈Jb A s↔p≠s/\(p,u)∈A:=by
 unfold Jb;grind
def mw{β:Type}(f:α->β)(A:Ae (By×α))(s:By)(v:α):(Hp A s v).map (fun a=>(a.1,f a.2))=Hp (A.map fun a=>(a.1,f a.2)) s (f v):=by
 unfold Hp;have e:(A.map fun a=>(a.1,f a.2)).map (·.1)=A.map (·.1):=by rw[EV];rfl
 rw[e];split
 .simp only[EV];apply Kl;grind
 .simp
def uO{β:Type}(f:α->β)(A:Ae (By×α))(s:By):(Jb A s).map (fun a=>(a.1,f a.2))=Jb (A.map fun a=>(a.1,f a.2)) s:=by
 unfold Jb;rw[List.filter_map];rfl
def Ow(A:Ae (By×α))(m:By->Av α):Prop:=∀p v,(p,v)∈A↔m p=J v
def Ow.nil:Ow ([]:Ae (By×α)) Vn:=fun p v=>by simp[Vn]
def Ow.put{A:Ae (By×α)}{m:By->Av α}(h:Ow A m)(s:By)(v:α):Ow (Hp A s v) (FO m s (J v)):=fun p u=>by
 rw[yP,h];unfold FO;grind
def Ow.del{A:Ae (By×α)}{m:By->Av α}(h:Ow A m)(s:By):Ow (Jb A s) (FO m s Aa):=fun p u=>by
 rw[yN,h];unfold FO;simp
end
structure Seen{α:Type}(enc:α->Ah)(es:Ap MapEntry)(seen:Ap Y)(A V:Ae (By×α)):Prop where
 sub:∀a∈V,a∈A
 nod:(V.map (·.1)).Nodup
 fwd:∀e∈es.toList,e.born∈seen->∃a∈V,e.key=str a.1
 bwd:∀a∈V,∃e∈es.toList,e.born∈seen/\e.key=str a.1
section
variable{α:Type}{enc:α->Ah}{w:Ad}{b c:Y}{es:Ap MapEntry}{A V:Ae (By×α)}{seen:Ap Y}
def Seen.nil:Seen enc es #[] A []:=⟨Bh,Bh,Bh,Bh⟩
def Seen.next(hm:Mp w b es c (A.map fun a=>(a.1,enc a.2)))(h:Seen enc es seen A V){e:MapEntry}(he:e∈es.toList)(N:e.born∉seen):∃a∈A,e.key=str a.1/\e.val=enc a.2/\Seen enc es (seen.push e.born) A (V++[a]):=by
 obtain⟨p,E,K,I⟩:=hm.mem he;obtain⟨a,G,rfl⟩:=Cr.1 E;have k:=hm.st.2.2
 have C:∀g∈es.toList,g.key=e.key->g=e:=fun g d q=>by
  obtain⟨i,o,rfl⟩:=Hw.1 he;obtain⟨j,n,rfl⟩:=Hw.1 d;have B:(es.toList.map (·.key))[j]'(by simpa using n)=(es.toList.map (·.key))[i]'(by simpa using o):=by simpa using q
  have:=(MZ k).1 B;grind
 refine⟨a,G,K,I,fun x f=>?_,?_,fun g d l=>?_,fun x f=>?_⟩
 .rcases CW.1 f with f|f
  .exact h.sub x f
  .grind
 .rw[DW,LV,WS];refine⟨h.nod,Bh,fun x f y D q=>?_⟩;simp at D;obtain⟨L,v,rfl⟩:=Cr.1 f;obtain⟨g,d,t,m⟩:=h.bwd L v;grind
 .rcases Array.mem_push.1 l with l|l
  .obtain⟨x,f,q⟩:=h.fwd g d l;grind
  .by_cases q:g.born∈seen
   .grind
   .refine⟨a,Bh,?_⟩;have r:=hm.st.2.1
    have:g=e:=by
     obtain⟨i,o,rfl⟩:=Hw.1 he;obtain⟨j,n,rfl⟩:=Hw.1 d;have B:(es.toList.map (·.born))[j]'(by simpa using n)=(es.toList.map (·.born))[i]'(by simpa using o):=by simpa using l
     have:=(MZ r).1 B;subst this;rfl
    grind
 .rcases CW.1 f with f|f
  .obtain⟨g,d,t,m⟩:=h.bwd x f;grind
  .grind
def Seen.done(hm:Mp w b es c (A.map fun a=>(a.1,enc a.2)))(h:Seen enc es seen A V)(d:∀e∈es.toList,e.born∈seen):∀a,a∈V↔a∈A:=fun a=>by
 refine⟨h.sub a,fun n=>?_⟩;have g:=hm.keys;rw[EV]at g
 have m:(str a.1,enc a.2)∈es.toList.map (fun e=>(e.key,e.val)):=by
  rw[hm.kv,EV];grind
 obtain⟨e,k,q⟩:=Cr.1 m;injection q with q1 q2;obtain⟨r,f,t⟩:=h.fwd e k (d e k);have l:a.1=r.1:=Bf;have p:=h.sub _ f;obtain⟨i,y,rfl⟩:=Hw.1 n;obtain⟨j,v,rfl⟩:=Hw.1 p;have o:(A.map ((fun x=>x.1)∘fun a=>(a.1,enc a.2)))[i]'Bf=(A.map ((fun x=>x.1)∘fun a=>(a.1,enc a.2)))[j]'Bf:=by simpa using l
 have:=(MZ g).1 o;grind
end
end
section
open Pth Rec Srt Wal
abbrev PX:={ x:M//Alz x.g<=2000000 }
instance:Inhabited PX:=⟨⟨⟨[],0,0,0,0⟩,Bh⟩⟩
abbrev My(x:PX):Bg:=x.1.g
def sk(x y:PX)(W:Ad)(o:DE W):Bm eD 80 [.agg (x.1.cells).toArray,.agg (y.1.cells).toArray] W fun r W'=>r=Bb (Cg My x y)/\Gr W W':=by
 obtain⟨x,j⟩:=x;obtain⟨y,i⟩:=y;refine Bw func80 Z ntmps80 (by rfl) Z ?_;refine(O 2∘Zv (by exact EX.box (l:=x.cells) Z Z)) ?_;have d:=Bk.new W 60 x.cells;have h:=Gr.alloc W (.cells x.cells.toArray 60);generalize m:W.alloc (.cells x.cells.toArray 60)=w1 at d h;refine(Zv (by exact EX.box (l:=y.cells) Z Z)∘O 5) ?_;have e:=Bk.new w1 60 y.cells;have f:=Gr.alloc w1 (.cells y.cells.toArray 60);have a:=d.a f.1;generalize k:w1.alloc (.cells y.cells.toArray 60)=w2 at e f a;have g:=h.trans f;refine(O 3∘Zc (tH x.g y.g j i w2 (o.a g.1))) ?_;rintro _ p⟨rfl,n⟩;refine(O 2∘Bu) ?_;exact⟨Z,g.trans n⟩
def NL(m:Bg->Av M)(n:Nt):Bg->Av M:=if n.kind=1 then FO m n.mem.g (J n.mem)else if n.kind=2 then FO m n.mem.g Aa else m
def Hl(l:Ae M)(ns:Ae Nt):Bg->Av M:=ns.foldl NL (LA M.g l)
def Uu(l:Ae M)(ns:Ae Nt)(n:Nt):Hl l (ns++[n])=NL (Hl l ns) n:=by simp[Hl]
def snocI{α:Type}{p:Ae α->Prop}(h0:p [])(h1:∀l a,p l->p (l++[a]))(l:Ae α):p l:=by
 have:∀r:Ae α,p r.reverse:=fun r=>by
  induction r with
  |nil=>grind
  |cons a r ih=>grind
 simpa using this l.reverse
def sg(l:Ae M)(ns:Ae Nt):∀p z,Hl l ns p=J z->z.g=p/\(z∈l∨∃n∈ns,n.mem=z):=by
 induction ns using snocI with
 |h0=>intro p z h;exact⟨ke M.g h,.inl (Zy M.g h)⟩
 |h1 ns n ih=>
  intro p z h;rw[Uu]at h
  have a:Hl l ns p=J z->z.g=p/\(z∈l∨∃k∈ns++[n],k.mem=z):=fun q=>by
   grind
  unfold NL at h;split at h
  .unfold FO at h;grind
  .split at h
   .unfold FO at h;grind
   .grind
abbrev Ov:=Bg×M
abbrev OH(m:M):Ah:=.agg m.cells.toArray
def mu{α:Type}(l:Ae (Bg×α))(s:Bg)(v:α):Alz (Hp l s v)<=Alz l+1:=by
 unfold Hp;grind
def uN{α:Type}(l:Ae (Bg×α))(s:Bg):Alz (Jb l s)<=Alz l:=TT _ _
def ZT{α:Type}[DecidableEq α]:∀{V A:Ae α},V.Nodup->(∀a∈V,a∈A)->Alz V<=Alz A
 |[],_,_,_=>BC _
 |x::V,A,hn,h=>by
  have hn':=TX.1 hn;have hx:=h x Bh;have ih:=ZT (A:=A.erase x) hn'.2 (fun a ha=>(List.mem_erase_of_ne (fun e=>hn'.1 Bf)).2 (h a Bf));grind
def lh{α β:Type}{V:Ae (α×β)}(h:(V.map (·.1)).Nodup):V.Nodup:=by
 have:V.Pairwise (fun a b=>a.1≠b.1):=LW.1 h;exact this.imp fun d e=>d (by rw[e])
def yo{w w':Ad}{r b s:Y}{a:Ap Y}{c:Y}(h:It w r b s a c)(hx:Be w w'):It w' r b s a c:=by
 unfold It at h ⊢
 have d:r<w.heap.size:=by
  rcases CM r w.heap.size with q|q
  .omega
  .grind
 rw[hx.block r d];omega
def bW(l:Ae M)(hl:∀x∈l,Alz x.g<=2000000)(hn:Alz l<=100000)(ns:Ae Nt)(cn:∀x∈ns,Alz x.mem.g<=2000000)(cl:Alz ns<=100000)(A A2:Av AB)(c c2 B B2:Y)(w:Ad)(hG:DE w)(hs:Sl w B A (Dz l))(b3:Sl w B2 A2 (CR ns)):
 Bm eD 42 [.slice A (Alz l) c,.slice A2 (Alz ns) c2] w fun v w'=>∃out,IsMap M.g (Hl l ns) out/\Bn w' w.heap.size 60 5 v (Alz out) (Dz out)/\Be w w':=by
 refine Bw func42 Z ntmps42 Bi Z ?_;refine(O 6) ?_;refine dV Z Z ?_;rintro mb w1 bs b8 b2;refine(O 10)<|Lo (fun((i,wr):Y×Ad)=>(i<=Alz l/\(∃es cc AA,Mp wr mb es cc (AA.map fun a:Ov=>(a.1,OH a.2))/\Ow AA (LA M.g (l.take i))/\Alz AA<=i)/\Be w wr,[(1,.slice A2 (Alz ns) c2),(5,.map (J mb)),(14,.slice A (Alz l) c),(15,Bb ((Alz l:Y):H)),(16,Bb i)],wr,Alz l-i)) (0,w1) ?_ ?_
 .exact⟨BC _,⟨_,_,[],b8,Ow.nil,Bq _⟩,b2⟩
 .rintro⟨i,wr⟩⟨hi,⟨es,cc,AA,hm,d,bh⟩,E⟩;refine(O 5)<|Zi (fun g=>?_) fun g=>?_
  .obtain⟨b,o,rfl,_,m⟩:=(hs.a E).flat (c:=5) (fun _=>rfl) Bc g;have G:l.take (i+1)=l.take i++[l[i]]:=(CX g).symm;generalize l[i]=x at m G;refine(O 6∘Zv (Dj x.cells m)∘Zn) ?_;rintro xb w2 a7 bf D;refine(Zs bf (hlt:=Bq _)) ?_;rintro w3 N Q;refine(O 4) ?_;replace N:Bk w3 xb 60 x.cells:=N;have S:Be wr w3:=Bp D Q D.size (fun k n=>by simp at n;omega);have al:=hm.a S;refine(O 1∘Zv (BX N)) ?_;refine OW.put Z iQ eT Z Z Z (al) ?_;rintro ao a0 T K j;refine(O 6)<|Lb ((i+1),T) ?_;refine⟨X,⟨ao,a0,Hp AA x.g x,?_,by rw[G,yx];exact d.put _ _,BA (mu _ _ _) X⟩,Bp (E.trans S) j (E.trans S).size (fun k n=>by simp at n;omega)⟩;rw[mw OH AA x.g x];exact K
  .obtain rfl:i=Alz l:=X;rw[DY]at d;refine(O 9)<|Lo (fun((i,wr):Y×Ad)=>(i<=Alz ns/\(∃es cc AA,Mp wr mb es cc (AA.map fun a:Ov=>(a.1,OH a.2))/\Ow AA (Hl l (ns.take i))/\Alz AA<=Alz l+i)/\Be w wr,[(5,.map (J mb)),(25,.slice A2 (Alz ns) c2),(26,Bb ((Alz ns:Y):H)),(27,Bb i)],wr,Alz ns-i)) (0,wr) ?_ ?_
   .exact⟨BC _,⟨_,_,AA,hm,d,bh⟩,E⟩
   .clear hm d bh E es cc AA;rintro⟨i,wr⟩⟨hi,⟨es,cc,AA,hm,d,bh⟩,E⟩;refine(O 5)<|Zi (fun g=>?_) fun g=>?_
    .obtain⟨b,o,rfl,_,m⟩:=(b3.a E).flat (c:=6) (fun _=>rfl) Bc g;have G:ns.take (i+1)=ns.take i++[ns[i]]:=(CX g).symm;generalize ns[i]=x at m G;refine(O 6∘Zv (Dj x.cells m)∘Zn) ?_;rintro xb w2 a7 bf D;refine(Zs bf (hlt:=Bq _)) ?_;rintro w3 N Q;refine(O 4) ?_;replace N:Bk w3 xb 116 x.cells:=N;have S:Be wr w3:=Bp D Q D.size (fun k n=>by simp at n;omega);have al:=hm.a S;have a9:=N.part (o:=1) (l2:=x.mem.cells) Z;refine(O 8)<|Zi (fun a2=>?_) fun a2=>?_
     .have af:Hl l (ns.take (i+1))=FO (Hl l (ns.take i)) x.mem.g (J x.mem):=by rw[G,Uu];unfold NL;rw[Aj a2]
      refine(O 6∘Zv (Dj x.mem.cells a9)) ?_;refine OW.put Z iQ eT Z Z Z (al) ?_;rintro ao a0 T K j;refine(O 7)<|Lb ((i+1),T) ?_;refine⟨X,⟨ao,a0,Hp AA x.mem.g x.mem,?_,by rw[af];exact d.put _ _,BA (mu _ _ _) X⟩,Bp (E.trans S) j (E.trans S).size (fun k n=>by simp at n;omega)⟩;rw[mw OH AA x.mem.g x.mem];exact K
     .refine(O 5)<|Zi (fun bc=>?_) fun bc=>?_
      .have af:Hl l (ns.take (i+1))=FO (Hl l (ns.take i)) x.mem.g Aa:=by rw[G,Uu];unfold NL;rw[Ag a2,Aj bc]
       refine(O 5) ?_;refine OW.del Z iQ eT Z Z (al) ?_;rintro ao a0 T K j;refine(O 7)<|Lb ((i+1),T) ?_;refine⟨X,⟨ao,a0,Jb AA x.mem.g,?_,by rw[af];exact d.del _,BA (uN _ _) X⟩,Bp (E.trans S) j (E.trans S).size (fun k n=>by simp at n;omega)⟩;rw[uO OH AA x.mem.g];exact K
      .have af:Hl l (ns.take (i+1))=Hl l (ns.take i):=by rw[G,Uu];unfold NL;rw[Ag a2,Ag bc]
       refine(O 7)<|Lb ((i+1),w3) ?_;exact⟨X,⟨es,cc,AA,al,by rw[af];exact d,X⟩,E.trans S⟩
    .obtain rfl:i=Alz ns:=X;rw[DY]at d;have cm:w.heap.size<=mb:=bs
     have bn:∀a∈AA,a.2.g=a.1/\Alz a.2.g<=2000000:=fun a ha=>by
      obtain⟨e1,e2⟩:=sg l ns _ _ ((d a.1 a.2).1 ha);grind
     refine(O 9) ?_;refine OW.range Z Z iQ Z (hm) ?_;rintro rb w2 a7 ca D;refine(O 1) ?_;have b7:=hm.a D;have x2:=E.trans D;have cj:rb≠mb:=by have:=hm.lt;omega
     have ck:w.heap.size<=rb:=by have:=E.size;omega
     refine Lc (fun((V,v,P):(Ae Ov)×Ah×Ad)=>((∀a,a∈V↔a∈AA)/\(V.map (fun a:Ov=>a.1)).Nodup/\Bn P w.heap.size 60 5 v (Alz V) (Dz (V.map (fun a:Ov=>a.2)))/\Be w P,[(10,v)],P)) ?_ ?_
     .refine(O 1)<|Lo (fun((V,v,P):(Ae Ov)×Ah×Ad)=>((∃ab,Seen OH es ab AA V/\It P rb mb cc ab cc)/\Mp P mb es cc (AA.map fun a:Ov=>(a.1,OH a.2))/\Bn P w.heap.size 60 5 v (Alz V) (Dz (V.map (·.2)))/\Be w P,[(10,v),(49,.pointer (J ⟨rb,0,Aa⟩))],P,Alz AA-Alz V)) (([]),(.slice Aa 0 0),w2) ?_ ?_
      .exact⟨⟨#[],Seen.nil,ca⟩,b7,Bn.nil _ _ _ _,x2⟩
      .rintro⟨V,v,P⟩⟨⟨ab,I,bq⟩,a1,h,C⟩;refine(O 2) ?_;refine OW.next Z Z Z (a1) (bq) ?_ ?_
       .intro b1;refine(O 5∘Lm (V,v,P)) ?_;exact⟨I.done a1 b1,I.nod,h,C⟩
       .rintro e w3 he b5 a6 aj;refine(O 8) ?_;obtain⟨a,co,n,hv,r⟩:=I.next a1 he b5;obtain⟨ek,ew,eb⟩:=e;simp only at n hv;subst n hv;have Q:=a1.j aj Bf;have S:Be w w3:=Bp C aj C.size (fun k n=>by simp at n;omega)
        have ba:=h.j aj (fun k n=>by
         simp only[Cp];rintro rfl;obtain⟨_,_,fr,q,_⟩:=h.K k n;unfold It at bq;grind)
        have ce:Alz V<Alz AA:=by
         have:=ZT (lh r.nod) r.sub;rw[Bx,CL]at this;omega
        refine(Zv (by exact pP Z (Q) (a6) (he))∘O 1∘Zn) ?_;rintro xb w4 ch cd bi;refine(Zs cd (hlt:=Bq _)) ?_;rintro T bd K;refine(O 3) ?_;replace bd:Bk T xb 60 a.2.cells:=bd;have y5:Be w3 T:=Bp bi K bi.size (fun k n=>by simp at n;omega);have x5:=S.trans y5;have t:=ba.a y5;have bl:=Q.a y5;have a5:=yo a6 y5;refine(Zv (BX bd)∘Kx x5 t) ?_;rintro _ v6 w6 b4 x6 cb;refine(O 3) ?_;have a4:Mo T w6 v.ownBlock.toList:=Mo.grown cb (fun k e=>by grind)
        have nm:mb∉v.ownBlock.toList:=fun q=>by
         obtain⟨_,_,fr,q2,_⟩:=t.K mb (FG.1 q);rw[bl.blk]at q2;cases q2
        have nr:rb∉v.ownBlock.toList:=fun q=>by
         obtain⟨_,_,fr,q2,_⟩:=t.K rb (FG.1 q);unfold It at a5;grind
        refine Lb ((V++[a]),v6,w6) ?_ (hm:=by dsimp only;rw[Bx];simp;omega);refine⟨⟨_,r,?_⟩,bl.j a4 nm,?_,x6⟩
        .unfold It at a5 ⊢
         have g:rb<T.heap.size:=by
          rcases CM rb T.heap.size with h'|h'
          .omega
          .grind
         rw[a4.block rb g nr];omega
        .rw[Bx,DW,LV,kU];omega
     .rintro⟨V,v,P⟩⟨hV,a3,h,C⟩
      have cg:∀z,z∈V.map (·.2)↔Hl l ns z.g=J z:=fun z=>by
       constructor
       .intro hz;obtain⟨a,ha,rfl⟩:=Cr.1 hz;rw[(bn a ((hV a).1 ha)).1];exact(d a.1 a.2).1 ((hV a).1 ha)
       .intro hz;exact Cr.2 ⟨(z.g,z),(hV _).2 ((d _ _).2 hz),Z⟩
      have b0:∀x∈V.map (·.2),Alz x.g<=2000000:=fun x E=>by
       grind
      have bm:(V.map (·.2)).map M.g=V.map (·.1):=by
       rw[EV];exact Kl fun a ha=>(bn a ((hV a).1 ha)).1
      obtain⟨L,hL⟩:∃L:Ae PX,L.map (·.1)=V.map (·.2):=⟨(V.map (·.2)).attachWith _ b0,Bh⟩;have cf:Alz L=Alz V:=by have:=AF DQ hL;simpa using this
      have bx:∀L:Ae PX,L.flatMap (fun x=>x.1.cells)=Dz (L.map (·.1)):=fun L=>by
       induction L with
       |nil=>rfl
       |cons x L ih=>rw[Gk,Cm,ih];rfl
      have ce:Alz V<=1000000:=by
       have h1:=ZT (V:=V) (A:=AA) (lh a3) (fun p hp=>(hV p).1 hp);omega
      have bb:Bn P w.heap.size 60 5 v (Alz L) (L.flatMap (fun x=>x.1.cells)):=by rw[bx,hL,cf];exact h
      have c1:=VQ nL (f:=79) Z func79 Bi (e:=60) Z iM Z Tt Bc (cells:=fun x:PX=>x.1.cells) (fun _=>rfl) (fun x v hv=>by simp[M.cells]at hv;rcases hv with rfl|rfl|rfl|rfl|rfl<;>rfl) (Cg My) (swo My) func80 Bi w.heap.size L X v P bb
       (fun W x y b6=>sk x y W (by
        obtain⟨mm,bj⟩:=hG
        exact⟨mm,by
         have hb:0<w.heap.size:=World.block_lt_of_cell? w _ bj;have h1:=b6.block 0 (Kq hb C.size) (fun q=>by have:=(h.lt _ (FG.1 q)).1;omega);have h2:=C.block 0 hb;unfold World.cell? at bj ⊢;grind⟩))
      refine(O 3∘Zc c1) ?_;rintro _ T⟨rfl,L',ai,a8,t,j⟩;refine(O 6∘Bu) ?_
      have b9:(L'.map My).Nodup:=by
       have h1:(L.map My).Nodup:=by
        have:L.map My=V.map (·.1):=by
         have e1:L.map My=(L.map (·.1)).map M.g:=by rw[EV];rfl
         rw[e1,hL];exact bm
        rw[this];exact a3
       exact(ai.map My).nodup_iff.2 h1
      have hr:=Acy My a8 b9;refine⟨L'.map (·.1),⟨?_,fun x=>?_⟩,?_,Bp C j C.size (fun k n=>(h.lt k (FG.1 n)).1)⟩
      .exact LW.2 hr
      .grind
      .rw[Dl,ai.length_eq,<-bx];omega
end
section
open Pth Rec Srt Dsk Wal Cat
structure _root_.Go.Proofs.YtkmlafmjaeeanaaGreatDoor.Vl where
 D:Dv
 gen:H
 next:H
 i:Ae M
 N:Ar
def HH(db:Y)(V:Vl)(u:Ah):Bl:=[.pointer (J ⟨db,0,Aa⟩),Bb V.gen,Bb V.next,u,.bool V.N]
structure VAt(w:Ad)(B vb db:Y)(V:Vl):Prop where
 E:Ce w B db V.D
 at_:∃u,Bk w vb 82 (HH db V u)/\Bn w B 60 5 u (Alz V.i) (Dz V.i)
 G:B<=vb
structure VAu(w:Ad)(B vb db:Y)(V:Vl)(u:Ah):Prop where
 E:Ce w B db V.D
 bk:Bk w vb 82 (HH db V u)
 y:Bn w B 60 5 u (Alz V.i) (Dz V.i)
 G:B<=vb
def VAu.at_{w:Ad}{B vb db:Y}{V:Vl}{u:Ah}(h:VAu w B vb db V u):VAt w B vb db V:=⟨h.E,⟨u,h.bk,h.y⟩,h.G⟩
def VAt.u{w:Ad}{B vb db:Y}{V:Vl}(h:VAt w B vb db V):∃u,VAu w B vb db V u:=by
 obtain⟨f,⟨u,e,d⟩,a⟩:=h;exact⟨u,f,e,d,a⟩
def vty(T:Aw):Ar:=Cb T||T==82
section
variable{w w':Ad}{B vb db:Y}{V V':Vl}
def VAt.a(h:VAt w B vb db V)(hx:Be w w'):VAt w' B vb db V:=by
 obtain⟨f,⟨u,e,d⟩,a⟩:=h;exact⟨f.a hx,⟨u,e.a hx,d.a hx⟩,a⟩
def VAt.dev_tm(h:VAt w B vb db V){D':Dv}(a:Ce w' B db D')(t:Tm w w' B Cb):VAt w' B vb db { V with D:=D' }:=by
 obtain⟨g,⟨u,f,e⟩,d⟩:=h;exact⟨a,⟨u,t.bk f Bc,t.y e Bc⟩,d⟩
def Tm.vty{w w':Ad}{B:Y}(t:Tm w w' B Cb):Tm w w' B vty:=t.mono fun T h=>by unfold Go.Proofs.YtkmlafmjaeeanaaGreatDoor.vty;grind
def VAt.put(h:VAt w B vb db V){u a:Ah}(d:Bk w vb 82 (HH db V u))(f:Bk w' vb 82 (HH db V' a))(e:Bn w B 60 5 a (Alz V'.i) (Dz V'.i))(hm:Mo w w' [vb])(g:V'.D=V.D):VAt w' B vb db V'/\Tm w w' B vty:=by
 have t:=Tm.set d hm h.G;refine⟨⟨?_,⟨a,f,t.y e Bc⟩,h.G⟩,t.mono fun T h=>by unfold vty;grind⟩;rw[g];exact h.E.tm t Bc Bc Bc Bc Bc Bc
def VAu.a{u:Ah}(h:VAu w B vb db V u)(hx:Be w w'):VAu w' B vb db V u:=⟨h.E.a hx,h.bk.a hx,h.y.a hx,h.G⟩
def VAu.dev_tm{u:Ah}(h:VAu w B vb db V u){D':Dv}(hd:Ce w' B db D')(t:Tm w w' B Cb):VAu w' B vb db { V with D:=D' } u:=
 ⟨hd,t.bk h.bk Bc,t.y h.y Bc,h.G⟩
def VAu.put{u a:Ah}(h:VAu w B vb db V u)(e:Bk w' vb 82 (HH db V' a))(d:Bn w B 60 5 a (Alz V'.i) (Dz V'.i))(hm:Mo w w' [vb])(f:V'.D=V.D):VAu w' B vb db V' a/\Tm w w' B vty:=by
 have t:=Tm.set h.bk hm h.G;refine⟨⟨?_,e,t.y d Bc,h.G⟩,t.mono fun T h=>by unfold vty;grind⟩;rw[f];exact h.E.tm t Bc Bc Bc Bc Bc Bc
def OI{u:Ah}(h:VAu w B vb db V u)(e:Y):Bm eD 67 [.pointer (J ⟨vb,0,Aa⟩),Bb (e:H)] w fun v w'=>v=Bb (e:H)/\VAu w' B vb db { V with N:=V.N||decide (e≠0) } u/\Tm w w' B vty:=by
 have k:=h.bk;refine Bw func67 Z ntmps67 (by rfl) Z ?_;refine(O 12) ?_;refine OW.split 10 Z (fun j=>?_) (fun j=>?_)
 .refine(O 5∘Zt k (hlt:=Bq _)) ?_;rintro f a d;refine(O 6) ?_
  replace a:Bk f vb 82 (HH db { V with N:=V.N||decide (e≠0) } u):=by
   rw[show(V.N||decide (e≠0))=Af by rw[j];rfl];exact a
  refine(Bu) ?_;obtain⟨i,g⟩:=h.put a h.y d Z;exact⟨Z,i,g⟩
 .refine(O 5∘Zt k (hlt:=Bq _)) ?_;rintro f a d;refine(O 6) ?_
  replace a:Bk f vb 82 (HH db { V with N:=V.N||decide (e≠0) } u):=by
   rw[show(V.N||decide (e≠0))=decide (e≠0) by rw[j];rfl];exact a
  refine(Bu) ?_;obtain⟨i,g⟩:=h.put a h.y d Z;exact⟨Z,i,g⟩
def YF(h:VAt w B vb db V)(e:Y):Bm eD 67 [.pointer (J ⟨vb,0,Aa⟩),Bb (e:H)] w fun v w'=>v=Bb (e:H)/\VAt w' B vb db { V with N:=V.N||decide (e≠0) }/\Tm w w' B vty:=by
 obtain⟨u,a⟩:=h.u;exact(OI a e).mono fun _ _ q=>⟨q.1,q.2.1.at_,q.2.2⟩
def Xp(h:VAt w B vb db V)(e:V.D.q):Bm eD 68 [.pointer (J ⟨vb,0,Aa⟩)] w fun v w'=>v=Bb ((if V.N=Af∨V.D.dead=Af then 190 else 0:Y):H)/\w=w':=by
 obtain⟨u,g,f⟩:=h.at_;refine Bw func68 Z ntmps68 (by rfl) Z ?_;refine(O 29) ?_;refine OW.split 20 Z (fun a=>?_) (fun a=>?_)
 .refine(O 14∘Bu) ?_;grind
 .refine(O 5∘Zc (Qt h.E e)) ?_;rintro _ _⟨rfl,rfl⟩;refine(O 3) ?_;refine Ga Z (fun d=>?_) (fun d=>?_)
  .refine(O 4∘Bu) ?_;grind
  .refine(O 6∘Bu) ?_;grind
def Ajf(h:VAt w B vb db V)(a:V.D.q):Bm eD 60 [.pointer (J ⟨vb,0,Aa⟩)] w fun v w'=>v=Bb (V.D.cap:H)/\w=w':=by
 obtain⟨u,e,d⟩:=h.at_;refine Bw func60 Z ntmps60 (by rfl) Z ?_;refine(O 19∘Zc (HQ h.E a)) ?_;rintro _ _⟨rfl,rfl⟩;refine(O 2∘Bu) ?_;simp
end
def yV(l:Ae M):∀u∈Dz l,u.oneCell'=Af:=by
 intro u a;obtain⟨p,_,h⟩:=Oi.1 a;simp only[M.cells,List.mem_cons,List.not_mem_nil,or_false]at h;rcases h with rfl|rfl|rfl|rfl|rfl<;>rfl
def tB(l:Ae M)(hl:Alz l<=1000000)(A:Av AB)(c B:Y)(w:Ad)(n:Sl w B A (Dz l)):
 Bm eD 52 [.slice A (Alz l) c] w fun v w'=>Bn w' w.heap.size 60 5 v (Alz l) (Dz l)/\Be w w':=by
 have j:=KE (cells:=M.cells) (k:=5) (fun _=>rfl) l;refine Bw func52 Z ntmps52 (by rfl) Z ?_;rcases A with _|⟨b,o,E⟩
 .have i:l=[]:=by
   rcases n with h|⟨_,_,h,_⟩
   .cases l with
    |nil=>rfl
    |cons x l=>
     have e:List.flatMap M.cells (x::l)=[]:=h;grind
   .cases h
  subst i;refine(O 15∘Bu) ?_;exact⟨Bn.nil _ _ _ _,Be.refl _⟩
 .refine(O 14) ?_;refine Mc 0 ([]) Z Z iU Tt Z Bc Z Z Z Bh Bc ?_;rintro y p f m d;refine(O 1) ?_;have a:Bn p w.heap.size 60 5 (.slice (J ⟨y,0,Aa⟩) 0 0) 0 []:=Bn.Akk (cap:=0) m f Z Bc;refine HM Z Z iU Tt Z Bc Z Z (d) (a) (Src.Akm iU (n.a d) j (yV l) Bc) CB X ?_;rintro D C g q t r;refine(O 2∘Bu) ?_;grind
section
variable{w w':Ad}{B vb db:Y}{V V':Vl}
def SI(h:VAt w B vb db V)(hm:Alz V.i<=1000000):Bm eD 23 [.pointer (J ⟨vb,0,Aa⟩)] w fun v w'=>Bn w' w.heap.size 60 5 v (Alz V.i) (Dz V.i)/\Be w w':=by
 obtain⟨u,i,e⟩:=h.at_;obtain⟨A,c,rfl,_,a⟩:=e.slice;refine Bw func23 Z ntmps23 (by rfl) Z ?_;refine(O 19∘Zc (tB V.i hm A c _ w a)) ?_;rintro _ f⟨d,g⟩;refine(O 2∘Bu) ?_;grind
def UU(h:VAt w B vb db V)(hm:Alz V.i<=1000000):Bm eD 66 [.pointer (J ⟨vb,0,Aa⟩)] w fun v w'=>Bn w' w.heap.size 121 2 v (Alz V.i) (Ei (BY V.i))/\Be w w':=by
 obtain⟨u,Q,E⟩:=h.at_;obtain⟨A,c,rfl,_,n⟩:=E.slice;generalize T:V.i=l at hm n E Q;refine Bw func66 Z ntmps66 Bi Z ?_;refine(O 19) ?_;have P:Alz (BY l)=Alz l:=Mq l;refine Lo (fun((i,q,wr):Y×Ah×Ad)=>(i<=Alz l/\Bn wr w.heap.size 121 2 q i (Ei (BY (l.take i)))/\Be w wr,[(3,q),(9,.slice A (Alz l) c),(10,Bb ((Alz l:Y):H)),(11,Bb i)],wr,Alz l-i)) (0,(.slice Aa 0 0),w) ?_ ?_
 .exact⟨BC _,Bn.nil _ _ _ _,Be.refl _⟩
 .rintro⟨i,q,wr⟩⟨hi,f,D⟩;refine(O 5)<|Zi (fun a=>?_) fun a=>?_
  .obtain⟨b,o,rfl,_,d⟩:=(n.a D).flat (l:=l) (i:=i) (c:=5) (fun _=>rfl) Bc a;have j:l.take (i+1)=l.take i++[l[i]]:=(CX a).symm;generalize l[i]=m at d j;refine(O 6∘Zv (Dj m.cells d)∘Zn) ?_;rintro I S G x e;refine(Zs x (hlt:=Bq _)) ?_;rintro C p t;refine(O 4) ?_;replace p:Bk C I 60 m.cells:=p;have y:Be wr C:=Bp e t e.size (fun k W=>by grind);refine(O 4∘Kx (D.trans y) (f.a y)) ?_;rintro _ L K g r N;refine(O 7)<|Lb ((i+1),L,K) ?_;refine⟨a,?_,r⟩;rw[j,show BY (l.take i++[m])=BY (l.take i)++[(m.start,m.p)] by simp[BY],PG];exact g
  .obtain rfl:i=Alz l:=X;rw[Dh (Bq _)]at f;refine(O 6∘Bu) ?_;grind
def yy(h:VAt w B vb db V)(hm:Alz V.i<=1000000):Bm eD 45 [.pointer (J ⟨vb,0,Aa⟩)] w fun v w'=>Bn w' w.heap.size 9 1 v (Alz V.i) (Da (V.i.map M.g))/\Be w w':=by
 have L:=SI h hm;generalize T:V.i=l at hm L;refine Bw func45 Z ntmps45 (by rfl) Z ?_;refine(O 12∘Zc L) ?_;rintro _ p⟨r,g⟩;obtain⟨A,c,rfl,_,y⟩:=r.slice;refine(O 4)<|Lo (fun((i,q,wr):Y×Ah×Ad)=>(i<=Alz l/\Bn wr p.heap.size 9 1 q i (Da ((l.take i).map M.g))/\Be p wr,[(3,q),(7,.slice A (Alz l) c),(8,Bb ((Alz l:Y):H)),(9,Bb i)],wr,Alz l-i)) (0,(.slice Aa 0 0),p) ?_ ?_
 .exact⟨BC _,Bn.nil _ _ _ _,Be.refl _⟩
 .rintro⟨i,q,wr⟩⟨hi,a,x⟩;refine(O 5)<|Zi (fun d=>?_) fun d=>?_
  .obtain⟨b,o,rfl,_,e⟩:=(y.a x).flat (l:=l) (i:=i) (c:=5) (fun _=>rfl) Bh d;have j:l.take (i+1)=l.take i++[l[i]]:=(CX d).symm;generalize l[i]=m at e j;refine(O 6∘Zv (Dj m.cells e)∘Zn) ?_;rintro N S K D f;refine(Zs D (hlt:=Bq _)) ?_;rintro G n C;refine(O 4) ?_;replace n:Bk G N 60 m.cells:=n;have E:Be wr G:=Bp f C f.size (fun k W=>by grind);refine(O 1∘Hk (x.trans E) (a.a E)) ?_;rintro _ Q P I t _ _;refine(O 7)<|Lb ((i+1),Q,P) ?_;refine⟨d,?_,t⟩;rw[j,DW,LV,bU];omega
  .obtain rfl:i=Alz l:=X;rw[Dh (Bq _)]at a;refine(O 6∘Bu) ?_;exact⟨Bn.l a g.size,g.trans x⟩
end
noncomputable def Dm(l:Ae M)(ns:Ae Nt):Ae M:=open Classical in if h:∃out,IsMap M.g (Hl l ns) out then h.choose else[]
def Uv{l:Ae M}{ns:Ae Nt}{out:Ae M}(h:IsMap M.g (Hl l ns) out):Dm l ns=out:=by
 have a:∃out,IsMap M.g (Hl l ns) out:=⟨out,h⟩;unfold Dm;rw[AQ a];exact IsMap.one a.choose_spec h
structure VOk(V:Vl)(k:Y):Prop where
 E:V.D.q
 sm:Sm V.D k
 gen:0<=V.gen/\V.gen<=4611686018427387905
 next:0<=V.next/\V.next<=20
 ok:∀m∈V.i,m.q
 len:Alz V.i<=1000
 g:∀m∈V.i,Alz m.g<=2000000
noncomputable def CN(V:Vl)(n:H):Vl×Y:=
 if n<=20-V.next then(V,0)
 else if(CO V.D (V.gen+1) V.i).2≠0 then({ V with D:=(CO V.D (V.gen+1) V.i).1,N:=Af },(CO V.D (V.gen+1) V.i).2)
 else({ V with D:=(CO V.D (V.gen+1) V.i).1,gen:=V.gen+1,next:=0 },0)
noncomputable def Ml(V:Vl)(ns:Ae Nt):Vl×Y:=
 if(Fw V.D V.gen V.next ns).2.2≠0 then({ V with D:=(Fw V.D V.gen V.next ns).1,N:=Af },(Fw V.D V.gen V.next ns).2.2)
 else({ V with D:=(Fw V.D V.gen V.next ns).1,next:=(Fw V.D V.gen V.next ns).2.1,i:=Dm V.i ns },0)
section
variable{w w':Ad}{B vb db:Y}{V V':Vl}{k:Y}
def aQ{u:Ah}(h:VAu w B vb db V u)(f:VOk V k)(hk:k<=900000000)(hG:DE w)(n:H)(h0:0<=n/\n<=1000000):Bm eD 54 [.pointer (J ⟨vb,0,Aa⟩),Bb n] w fun v w'=>v=Bb (((CN V n).2:Y):H)/\VAu w' B vb db (CN V n).1 u/\Tm w w' B vty:=by
 have hb:=h.bk;have G:=h.y;have K:=f.gen;have o:=f.next;have I:=f.len;refine Bw func54 Z ntmps54 Bi Z ?_;refine(O 15)<|Zi (fun a=>?_) fun a=>?_
 .have e:CN V n=(V,0):=Aj a;rw[e];refine(O 4∘Bu) ?_;exact⟨Z,h,Tm.refl _ _ _⟩
 .obtain⟨A,c,rfl,_,m⟩:=G.slice;have P:=nw f.E f.sm hk B db (V.gen+1) X X V.i X f.ok A c _ w.drew (hG.a (Be.drew w)) (h.E.a (Be.drew w)) (m.a (Be.drew w));obtain⟨r,hr⟩:∃r,r=CO V.D (V.gen+1) V.i:=⟨_,Z⟩;have e:CN V n=if r.2≠0 then({ V with D:=r.1,N:=Af },r.2)else({ V with D:=r.1,gen:=V.gen+1,next:=0 },0):=by rw[hr];exact Ag a
  rw[e];rw[<-hr]at P;refine(O 3∘Yr 15 (fun w'=>Bk w' vb 82 (HH db V (.slice A (Alz V.i) c))) hb.drew) fun C=>(Gv [0,1,2,3,4,5,6,7,8,9,10,11,12]∘Yc 13 P) ?_;rintro _ l⟨rfl,x,j⟩;refine⟨j.bk C Bc,fun C=>?_⟩;refine(Gv [14]∘Yd∘O 5) ?_;have N:VAu l B vb db { V with D:=r.1 } (.slice A (Alz V.i) c):=(h.a (Be.drew w)).dev_tm x j;have g:Tm w l B vty:=(Tm.Akj (Be.drew w) _ _).trans (Tm.vty j);refine Zi (fun he=>?_) fun he=>?_
  .have t:r.2≠0:=X;rw[Aj t];refine(O 4∘Zc (OI N r.2)) ?_;rintro _ Q⟨rfl,L,S⟩;refine(O 2∘Bu) ?_;rw[show(({ V with D:=r.1 }:Vl).N||decide (r.2≠0))=Af by grind]at L;exact⟨Z,L,g.trans S⟩
  .rw[Ag X];refine(O 12∘Zt C (hlt:=(by decide:(1:Y)<5))) ?_;rintro Q y q;refine(O 2∘Zt y (hlt:=(by decide:(2:Y)<5))) ?_;rintro E d p;refine(O 5) ?_;have i:Mo l E [vb]:=q.trans p;replace d:Bk E vb 82 (HH db { V with D:=r.1,gen:=V.gen+1,next:=0 } (.slice A (Alz V.i) c)):=d;refine(Bu) ?_;obtain⟨W,T⟩:=N.put (V':={ V with D:=r.1,gen:=V.gen+1,next:=0 }) d (j.y (G.a (Be.drew w)) Bc) i Z;exact⟨Z,W,g.trans T⟩
def Adh(h:VAt w B vb db V)(d:VOk V k)(hk:k<=900000000)(e:DE w)(n:H)(h0:0<=n/\n<=1000000):Bm eD 54 [.pointer (J ⟨vb,0,Aa⟩),Bb n] w fun v w'=>v=Bb (((CN V n).2:Y):H)/\VAt w' B vb db (CN V n).1/\Tm w w' B vty:=by
 obtain⟨u,a⟩:=h.u;exact(aQ a d hk e n h0).mono fun _ _ q=>⟨q.1,q.2.1.at_,q.2.2⟩
def XT(h:VAt w B vb db V)(f:VOk V k)(hk:k<=900000000)(hG:DE w)(N:0<B)(ns:Ae Nt)(x:Alz ns<=1000)(l:∀n∈ns,n.mem.q/\Alz n.mem.g<=2000000)(A2:Av AB)(c2 y:Y)(G:Sl w y A2 (CR ns))(E:∀w',Tm w w' B vty->Sl w' y A2 (CR ns)):
 Bm eD 55 [.pointer (J ⟨vb,0,Aa⟩),.slice A2 (Alz ns) c2] w fun v w'=>v=Bb (((Ml V ns).2:Y):H)/\VAt w' B vb db (Ml V ns).1/\Tm w w' B vty:=by
 obtain⟨u,hb,hu⟩:=h.at_;have af:=f.gen;have I:=f.next;have ab:=f.len;obtain⟨A,c,rfl,_,ai⟩:=hu.slice;have cs:=si f.E f.sm hk B db V.gen V.next X X X X ns X (fun n x=>(l n x).1) A2 c2 y w.drew (h.E.a (Be.drew w)) (G.a (Be.drew w));unfold Ml;obtain⟨r,hr⟩:∃r,r=Fw V.D V.gen V.next ns:=⟨_,Z⟩;rw[<-hr]at cs;rw[<-hr];refine Bw func55 Z ntmps55 Bi Z ?_;refine(O 5∘Yr 19 (fun w'=>Bk w' vb 82 (HH db V (.slice A (Alz V.i) c))) hb.drew) fun T=>(Gv [0,1,2,3,4,5,6,7,8,9,10,11,12]∘Yc 13 cs) ?_;rintro _ q⟨rfl,Q,t⟩;refine⟨t.bk T Bc,fun T=>?_⟩;refine(Gv [14,15,16,17,18]∘Yd∘O 6) ?_;have h1:VAt q B vb db { V with D:=r.1 }:=(h.a (Be.drew w)).dev_tm Q t;have a:Tm w q B vty:=(Tm.Akj (Be.drew w) _ _).trans (Tm.vty t);refine Zi (fun he=>?_) fun he=>?_
 .have P:r.2.2≠0:=X;rw[Aj P];refine(O 4∘Zc (YF h1 r.2.2)) ?_;rintro _ w2⟨rfl,h2,t2⟩;refine(O 2∘Bu) ?_;rw[show(({ V with D:=r.1 }:Vl).N||decide (r.2.2≠0))=Af by grind]at h2;exact⟨Z,h2,a.trans t2⟩
 .rw[Ag X];have C:=t.y (hu.a (Be.drew w)) Bc;obtain⟨A',c',e',_,i⟩:=C.slice;cases e';refine(O 11∘Zc (bW V.i f.g X ns (fun n x=>(l n x).2) X A A2 c c2 _ y q (LC hG a N) i (E q a))) ?_;rintro v2 w2⟨g,m,j,d⟩;refine(O 2) ?_;have p:=T.a d;refine(Zt p (hlt:=(by decide:(2:Y)<5))) ?_;rintro w3 S L;refine(O 2∘Zt S (hlt:=(by decide:(3:Y)<5))) ?_;rintro W e K;refine(O 5) ?_;have o:Mo w2 W [vb]:=L.trans K;rw[Uv m];replace e:Bk W vb 82 (HH db { V with D:=r.1,next:=r.2.1,i:=g } v2):=e;refine(Bu) ?_;obtain⟨q1,q2⟩:=(h1.a d).put (V':={ V with D:=r.1,next:=r.2.1,i:=g }) p e (Bn.l j (BA h.E.lt.1 (RW (Kq h.E.lt.2 a.size)))) o Z;exact⟨Z,q1,a.trans ((Tm.Akj d _ _).trans q2)⟩
end
def yT(e:Y)(p:Bg)(m:M)(w:Ad)(i:Bk w e 9 [str p]):Bm eD 86 [.agg m.cells.toArray,.pointer (J ⟨e,0,Aa⟩)] w fun v w'=>v=.bool (decide (m.g=p))/\Be w w':=by
 refine Bw func86 Z ntmps86 (by rfl) Z ?_;refine(O 2) ?_;refine Dq Z Z Z ?_;rintro h g f a d;refine(O 5) ?_;replace a:Bk g h 60 m.cells:=a;refine(O 1∘Zv (Bo (i.a d))∘O 3∘Bu) ?_;grind
def OP(l:Ae M)(p:Bg):H:=if l.findIdx (fun m=>decide (m.g=p))<Alz l then((l.findIdx (fun m=>decide (m.g=p)):Y):H)else -1
def xX(l:Ae M)(hl:Alz l<=1000000)(p:Bg)(n:Y)(A:Av AB)(c B:Y)(w:Ad)(x:Sl w B A (Dz l))(C:Bk w n 9 [str p]):
 Bm eD 85 [.slice A (Alz l) c,.func (.func 86) #[] #[.pointer (J ⟨n,0,Aa⟩)]] w fun v w'=>v=Bb (OP l p)/\Be w w':=by
 refine Bw func85 Z ntmps85 (by rfl) Z ?_;refine(O 12)<|Lo (fun((i,wr):Y×Ad)=>(i<=Alz l/\(∀m∈l.take i,m.g≠p)/\Be w wr,[(0,.slice A (Alz l) c),(1,.func (.func 86) #[] #[.pointer (J ⟨n,0,Aa⟩)]),(7,Bb ((Alz l:Y):H)),(8,Bb i)],wr,Alz l-i)) (0,w) ?_ ?_
 .exact⟨BC _,(fun m G=>by grind),Be.refl _⟩
 .rintro⟨i,wr⟩⟨K,h,g⟩;refine(O 5)<|Zi (fun a=>?_) fun a=>?_
  .obtain⟨b,o,rfl,_,d⟩:=(x.a g).flat (l:=l) (i:=i) (c:=5) (fun _=>rfl) Bc a;have q:l.take (i+1)=l.take i++[l[i]]:=(CX a).symm
   have r:l[i].g=p->l.findIdx (fun m=>decide (m.g=p))=i:=fun e=>by
    refine(List.findIdx_eq a).2 ⟨Bf,fun j I=>?_⟩;have:=h l[j] (by rw[List.mem_take_iff_getElem];grind);grind
   generalize l[i]=m at d q r;refine(O 14∘Zv (Dj m.cells d)∘Ea (yT n p m wr (C.a g))) ?_;rintro _ t⟨rfl,f⟩;refine(O 1)<|Zi (fun D=>?_) fun D=>?_
   .refine(O 5∘Bu) ?_;refine⟨?_,g.trans f⟩;unfold OP;grind
   .refine(O 6)<|Lb ((i+1),t) ?_;refine⟨a,fun y E=>?_,g.trans f⟩;grind
  .obtain rfl:i=Alz l:=X;rw[Dh (Bq _)]at h;refine(O 5∘Bu) ?_;refine⟨?_,g⟩;unfold OP;grind
def Nx:M:=⟨[],0,0,0,0⟩
noncomputable def CD(V:Vl)(p:Bg):M×Y:=if V.N=Af∨V.D.dead=Af then(Nx,190)else if Cw p≠0 then(Nx,140)else match V.i.find? (fun m=>decide (m.g=p))with
 |none=>(Nx,240)
 |some m=>(m,0)
def vK(l:Ae M)(p:Bg):(l.find? (fun m=>decide (m.g=p))=Aa/\OP l p=-1)∨∃i,∃h:i<Alz l,l.find? (fun m=>decide (m.g=p))=J l[i]/\OP l p=(i:H):=by
 unfold OP;by_cases q:l.findIdx (fun m=>decide (m.g=p))<Alz l
 .refine .inr ⟨_,q,?_,X⟩;rw[List.find?_eq_some_iff_getElem];grind
 .grind
section
variable{w w':Ad}{B vb db:Y}{V V':Vl}{k:Y}
def ZJ(h:VAt w B vb db V)(ho:VOk V k)(p:Bg)(hp:Alz p<=1000000000):Bm eD 53 [.pointer (J ⟨vb,0,Aa⟩),str p] w fun v w'=>v=.tuple #[.agg (CD V p).1.cells.toArray,Bb (((CD V p).2:Y):H)]/\Be w w':=by
 obtain⟨u,hb,hu⟩:=h.at_;obtain⟨A,c,rfl,_,L⟩:=hu.slice;have a0:=ho.len;refine Bw func53 Z ntmps53 Bi Z ?_;refine(O 2) ?_;refine Mb Z Z Z Z ?_;rintro pb w1 a2 ab I;refine(Zn) ?_;rintro tb w2 a1 K G;refine(O 6) ?_;have E:=I.trans G;have z1:=I.size;have h2:=h.a E;have ao:=hb.a E;have S:=Xp h2 ho.E;have y:∀e r,Be w r->CD V p=(Nx,e)->(Value.tuple #[.agg Nx.cells.toArray,Bb ((e:Y):H)]=.tuple #[.agg (CD V p).1.cells.toArray,Bb (((CD V p).2:Y):H)]/\Be w r):=fun e r hx q=>by grind
 by_cases P:V.N=Af∨V.D.dead=Af
 .rw[Aj P]at S;have e:CD V p=(Nx,190):=Aj P;refine(Zc S) ?_;rintro _ _⟨rfl,rfl⟩;refine(O 7∘EF 11∘O 5∘Zs K (hlt:=Bq _)) ?_;rintro r n ai;refine(O 2∘Dx n) ?_;exact y 190 r (Bp E ai E.size Bv) e
 .rw[Ag P]at S;refine(Zc S) ?_;rintro _ _⟨rfl,rfl⟩;refine(O 7∘Ci 11∘O 5) ?_;have W:=ab.a G;refine(O 1∘Zc (OA p X w2)) ?_;rintro _ r⟨rfl,g⟩;refine(O 2) ?_;have n:=K.a g;have al:=ao.a g;have Q:=E.trans g;refine Zi (fun hc=>?_) fun hc=>?_
  .have e:CD V p=(Nx,140):=by
    unfold CD;rw[Ag P,Aj X]
   refine(O 3∘Zs n (hlt:=Bq _)) ?_;rintro w4 j af;refine(O 2∘Dx j) ?_;exact y 140 w4 (Bp Q af Q.size Bv) e
  .refine(O 8∘Zv (by exact FZ Z Z)∘Zc (xX V.i X p pb A c _ r (L.a Q) (W.a g))) ?_;rintro _ w4⟨rfl,t⟩;refine(O 8) ?_;have j:=n.a t;have a3:=al.a t;have C:=Q.trans t
   have e0:CD V p=match V.i.find? (fun m=>decide (m.g=p))with|none=>(Nx,240)|some m=>(m,0):=by
    unfold CD;rw[Ag P,Ag X]
   have N:=vK V.i p;generalize OP V.i p=ix at N;refine Zi (fun aj=>?_) fun aj=>?_
   .have e:CD V p=(Nx,240):=by
     rcases N with⟨f,_⟩|⟨i,hi,_,f⟩
     .grind
     .omega
    refine(O 3∘Zs j (hlt:=Bq _)) ?_;rintro T a x;refine(O 2∘Dx a) ?_;exact y 240 T (Bp C x C.size Bv) e
   .obtain⟨i,hi,hf,rfl⟩:∃i,∃h:i<Alz V.i,V.i.find? (fun m=>decide (m.g=p))=J V.i[i]/\ix=(i:H):=by
     grind
    rw[hf]at e0;simp only at e0;rw[e0];obtain⟨b,o,rfl,_,d⟩:=(L.a C).flat (l:=V.i) (i:=i) (c:=5) (fun _=>rfl) Bc hi;generalize V.i[i]=m at d;refine(O 10∘Zv (Dj m.cells d)∘Zs j (hlt:=Bq _)) ?_;rintro T a x;refine(O 2) ?_;replace a:Bk T tb 60 m.cells:=a;refine(Dx a) ?_;exact⟨Z,Bp C x C.size Bv⟩
end
def Aej{D:Dv}{gen:H}{l:Ae M}(h:(CO D gen l).2=0):OkE gen l/\OkC l D.cap:=by
 by_cases q:OkE gen l/\OkC l D.cap
 .omega
 .rw[nu q]at h;omega
def aP{V:Vl}{k:Y}(a:VOk V k)(n:H):VOk (CN V n).1 (k+6)/\(CN V n).1.i=V.i:=by
 unfold CN;split
 .exact⟨⟨a.E,a.sm.l (Oo _ _),a.gen,a.next,a.ok,a.len,a.g⟩,Z⟩
 .split
  .exact⟨⟨nv a.E _ _,ny a.sm _ _,a.gen,a.next,a.ok,a.len,a.g⟩,Z⟩
  .rename_i h;have d:=(Aej (Dd.1 h)).1;have f:=d.G;have e:=d.high;have:=a.gen;exact⟨⟨nv a.E _ _,ny a.sm _ _,Bf,Bh,a.ok,a.len,a.g⟩,Z⟩
noncomputable def Lu(V:Vl)(p:Bg):Vl×Y:=
 if(CD V p).2≠0 then(V,(CD V p).2)else if(CN V 2).2≠0 then CN V 2 else Ml (CN V 2).1 [⟨2,bare p⟩]
section
variable{w w':Ad}{B vb db:Y}{V V':Vl}{k:Y}
def gz(h:VAt w B vb db V)(x:VOk V k)(hk:k<=800000000)(G:DE w)(l:0<B)(p:Bg)(hp:Alz p<=1000000):Bm eD 26 [.pointer (J ⟨vb,0,Aa⟩),str p] w fun v w'=>v=Bb (((Lu V p).2:Y):H)/\VAt w' B vb db (Lu V p).1/\Tm w w' B vty:=by
 obtain⟨j,q⟩:=aP x 2;have C:=ZJ h x p X;unfold Lu;generalize(CD V p).2=e at C;generalize(CD V p).1=m at C;refine Bw func26 Z ntmps26 Bi Z ?_;refine(O 9∘Zc C) ?_;rintro _ w1⟨rfl,f⟩;refine(O 3∘Zn) ?_;rintro mb w2 E A i;refine(Zs A (hlt:=Bq _)) ?_;rintro P ab y;refine(O 7) ?_;have o:Be w P:=Bp (f.trans i) y (f.trans i).size (by simp;have:=f.size;omega);have I:=h.a o;refine Zi (fun he=>?_) fun he=>?_
 .rw[Aj (show e≠0 by omega)];refine(O 5∘Bu) ?_;exact⟨Z,I,Tm.Akj o _ _⟩
 .rw[Ag (show ¬e≠0 by omega)];have K:=Adh I x X (G.a o) 2 Bc;generalize CN V 2=r at K j q;refine(O 7∘Zc K) ?_;rintro _ N⟨rfl,h4,S⟩;refine(O 7) ?_;have g:Tm w N B vty:=(Tm.Akj o _ _).trans S;refine Zi (fun T=>?_) fun T=>?_
  .rw[Aj (show r.2≠0 by omega)];refine(O 5∘Bu) ?_;grind
  .rw[Ag (show ¬r.2≠0 by omega)];refine(O 8∘Zv (by exact LO (pl:=[(0,1),(1,5)]) (ks:=[0,1]) (zs:=[Bb 0,str [],Bb 0,Bb 0,Bb 0,.int .u32 0]) li MO Bi Z Z Z)) ?_;refine Mc 1 ([(⟨2,bare p⟩:Nt).cells]) Z Z iI MO Z Bc Z Z Z (by repeat' (first|exact Lh _|refine Lg.2 ⟨by rfl,?_⟩)) Bc ?_;rintro nb L D a d;replace a:Bk L nb 116 (CR [⟨2,bare p⟩]):=a;refine(Zc (XT (h4.a d) j X ((LC G g l).a d) l [⟨2,bare p⟩] Bh (fun n W=>by rw[Cp.1 W];exact⟨⟨by show Alz p<=_;omega,by show 0<=4294967295;decide⟩,by show Alz p<=_;omega⟩) (J ⟨nb,0,Aa⟩) 1 (nb+1) (Sl.Akk a (PZ _)) (fun w' t=>Sl.Akk (t.bk a Bc) (PZ _)))) ?_;rintro _ w6⟨rfl,h6,Q⟩;refine(O 2∘Bu) ?_;exact⟨Z,h6,g.trans ((Tm.Akj d _ _).trans Q)⟩
end
noncomputable def Fg(V:Vl):H:=open Classical in if OkX (BY V.i) 4096 then JP (BY V.i)else 30
noncomputable def MP(V:Vl):Vl×Y:=
 if V.N=Af∨V.D.dead=Af then(V,190)
 else if((Alz V.D.now/512:Y):H)<=Fg V then(V,0)
 else if(V.D.cut (Fg V)).2≠0 then({ V with D:=(V.D.cut (Fg V)).1,N:=Af },(V.D.cut (Fg V)).2)
 else({ V with D:=(V.D.cut (Fg V)).1.w.1,N:=V.N||decide ((V.D.cut (Fg V)).1.w.2≠0) },(V.D.cut (Fg V)).1.w.2)
def gK(V:Vl):30<=Fg V/\Fg V<=4096:=by
 unfold Fg;split
 .rename_i d;exact⟨(YB _).1,gL Bc fun x a=>by have:=d.fit x a;unfold HT at this;omega⟩
 .simp
def ue{D:Dv}{k:Y}(h:Sm D k)(n:H):Sm (D.cut n).1 (k+1):=by
 unfold Dv.cut;split
 .exact h.l (PY _)
 .split
  .exact h.l (PY _)
  .exact Yl h _
section
variable{w w':Ad}{B vb db:Y}{V V':Vl}{k:Y}
def pd(h:VAt w B vb db V)(f:VOk V k)(hk:k<=800000000):Bm eD 31 [.pointer (J ⟨vb,0,Aa⟩)] w fun v w'=>v=Bb (((MP V).2:Y):H)/\VAt w' B vb db (MP V).1/\Tm w w' B vty:=by
 have y:=Xp h f.E;have af:=f.len;have n:=gK V;have ab:=f.E.now;have ai:=f.E.cap;refine Bw func31 Z ntmps31 Bi Z ?_;refine(O 8) ?_;by_cases q:V.N=Af∨V.D.dead=Af
 .rw[Aj q]at y;have e:MP V=(V,190):=Aj q;rw[e];refine(Zc y) ?_;rintro _ _⟨rfl,rfl⟩;refine(O 7∘EF 9∘O 6∘Bu) ?_;exact⟨Z,h,Tm.refl _ _ _⟩
 .rw[Ag q]at y;have e0:MP V=if((Alz V.D.now/512:Y):H)<=Fg V then(V,0)else if(V.D.cut (Fg V)).2≠0 then({ V with D:=(V.D.cut (Fg V)).1,N:=Af },(V.D.cut (Fg V)).2)else({ V with D:=(V.D.cut (Fg V)).1.w.1,N:=V.N||decide ((V.D.cut (Fg V)).1.w.2≠0) },(V.D.cut (Fg V)).1.w.2):=Ag q;rw[e0];refine(Zc y) ?_;rintro _ _⟨rfl,rfl⟩;refine(O 7∘Ci 9∘O 7∘Zc (UU h X)) ?_;rintro v1 w1⟨m,K⟩;obtain⟨A1,A,rfl,_,G⟩:=m.slice;have x:=Agm (BY V.i) (by rw[Mq];omega) A1 A _ w1 G;rw[Mq]at x;have p:(if OkX (BY V.i) 4096 then JP (BY V.i)else 30)=Fg V:=by unfold Fg;split<;>rfl
  rw[p]at x;generalize Fg V=z at n x;refine(Zc x) ?_;rintro _ w2⟨rfl,I⟩;refine(O 9) ?_;have C:=K.trans I;have o:=h.a C;obtain⟨u,hb,hu⟩:=o.at_;refine(O 1∘Zc (Nv o.E f.E)) ?_;rintro _ _⟨rfl,rfl⟩;refine(O 3)<|Zi (fun g=>?_) fun g=>?_
  .rw[Aj g];refine(O 4∘Bu) ?_;exact⟨Z,o,Tm.Akj C _ _⟩
  .rw[Ag g];have cc:=cut_d o.E f.E (f.sm.small X) z X X;have A:=ud f.E z;have c2:=ue f.sm z;generalize V.D.cut z=r at cc A c2;refine(O 10∘Zc cc) ?_;rintro _ i⟨rfl,Q,E⟩;refine(O 7) ?_;have T:VAt i B vb db { V with D:=r.1 }:=o.dev_tm Q E;have l:Tm w i B vty:=(Tm.Akj C _ _).trans (Tm.vty E);refine Zi (fun he=>?_) fun he=>?_
   .have L:r.2≠0:=X;rw[Aj L];refine(O 6∘Zc (YF T r.2)) ?_;rintro _ W⟨rfl,t,j⟩;refine(O 2∘Bu) ?_;rw[show(({ V with D:=r.1 }:Vl).N||decide (r.2≠0))=Af by grind]at t;exact⟨Z,t,l.trans j⟩
   .rw[Ag (show ¬r.2≠0 by omega)];have cs:=Tp (T.E.a (Be.drew i)) A (c2.small X);have S:=E.bk hb Bc;obtain⟨s,hs⟩:∃s,s=r.1.w:=⟨_,Z⟩;rw[<-hs]at cs;rw[<-hs];refine KW.skip (El ?_);refine PR (N:=11) (fun w'=>∃(bk:Ar) (u':Ah),Bk w' vb 82 (HH db { V with N:=bk } u')) Bi Z ?_;have d:=(⟨V.N,u,S.drew⟩:∃(bk:Ar) (u':Ah),Bk i.drew vb 82 (HH db { V with N:=bk } u'));refine GW.val 0 Z Bi Bi Bi Z Z d (fun w' a=>EX.move Z) ?_;refine GW.val 1 Z Bi Bi Bi Z Z d (fun w' a=>DU Z) ?_;refine GW.val 2 Z Bi Bi Bi Z Z d (fun w' a=>Dw (off:=0) iO Z Z Wa Z Z) ?_;refine GW.val 3 Z Bi Bi Bi Z Z d (fun w' a=>EX.move Z) ?_;refine GW.val 4 Z Bi Bi Bi Z Z d (fun w' a=>DU Z) ?_;refine GW.val 5 Z Bi Bi Bi Z Z d (fun w' a=>Dw (off:=0) iO Z Z Wa Z Z) ?_;refine GW.val 6 Z Bi Bi Bi Z Z d (fun w' a=>Dw (off:=0) nn Z Z bO Z Z) ?_;refine GW.val 7 Z Bi Bi Bi Z Z d (fun w' a=>CV mt Z Z (Exists.elim a fun _ h=>Exists.elim h fun _ h=>h.I Z)) ?_;refine GW.call 8 Z Bi Z Z Z (cs) ?_;rintro _ W⟨rfl,P,j⟩;refine⟨d.imp fun _ h=>h.imp fun _ h=>j.bk h Bc,fun d=>?_⟩;have t:VAt W B vb db { V with D:=s.1 }:=(T.a (Be.drew i)).dev_tm P j;refine(Yc 9 (YF t s.2)) ?_;rintro _ w5⟨rfl,h5,t5⟩;refine⟨⟨_,h5.at_.imp fun _ h=>h.1⟩,fun d=>?_⟩;refine(Gv [10]∘Yd∘Bu) ?_;exact⟨Z,h5,l.trans ((Tm.Akj (Be.drew i) _ _).trans ((Tm.vty j).trans t5))⟩
end
def Nl(a b:H):Y->Y->Dv->Dv×Y
 |0,_,D=>(D,0)
 |n+1,i,D=>if(D.read (a+i)).2.2≠0 then((D.read (a+i)).1,(D.read (a+i)).2.2)
  else if((D.read (a+i)).1.write (b+i) (D.read (a+i)).2.1).2≠0 then(D.read (a+i)).1.write (b+i) (D.read (a+i)).2.1
  else Nl a b n (i+1) ((D.read (a+i)).1.write (b+i) (D.read (a+i)).2.1).1
def Vl.fail(V:Vl)(D:Dv)(e:Y):Vl×Y:=({ V with D:=D,N:=Af },e)
noncomputable def Ni(R:Vl)(c:Dv×Y)(ns:Ae Nt):Vl×Y:=
 if c.2≠0 then R.fail c.1 c.2 else if c.1.w.2≠0 then R.fail c.1.w.1 c.1.w.2 else Ml { R with D:=c.1.w.1 } ns
def Ur{R:Vl}{c:Dv×Y}{ns:Ae Nt}(h:c.2≠0):Ni R c ns=R.fail c.1 c.2:=Aj h
def Xo(R:Vl)(D:Dv)(ns:Ae Nt):Ni R (D,0) ns=if D.w.2≠0 then R.fail D.w.1 D.w.2 else Ml { R with D:=D.w.1 } ns:=Ag fun h=>h Z
def mG{D:Dv}(h:D.q)(i:H):(D.read i).1.q:=by
 unfold Dv.read;split
 .exact h
 .split
  .exact h
  .exact⟨h.cap,h.kept,h.now,h.keptM,h.nowM,h.pend⟩
def Abz{D:Dv}{k:Y}(h:Sm D k)(i:H):Sm (D.read i).1 (k+1):=by
 unfold Dv.read;split
 .exact h.l X
 .split
  .exact h.l X
  .exact⟨Nat.succ_le_succ h.calls,Uf h.pend,h.at_,h.keep⟩
def Aby{D:Dv}(i:H):Alz (D.read i).2.1<=512:=by
 unfold Dv.read;grind
noncomputable def Gu(V:Vl)(p:Bg)(tt:H):Vl×Y:=open Classical in
 if(CD V p).2≠0 then(V,(CD V p).2)
 else if ¬OkX (BY V.i++[(tt,(CD V p).1.p)]) V.D.cap then(V,2)
 else if(CN V 2).2≠0 then CN V 2
 else Ni (CN V 2).1 (Nl (CD V p).1.start tt (CD V p).1.p.toNat 0 (CN V 2).1.D) [⟨1,{ (CD V p).1 with start:=tt }⟩]
def kP{V:Vl}{p:Bg}(h:(CD V p).2=0):(CD V p).1∈V.i/\(CD V p).1.g=p:=by
 unfold CD at h ⊢;grind
def QA{l:Ae M}{m:M}(h:m∈l):(m.start,m.p)∈BY l:=Cr.2 ⟨m,h,Z⟩
section
variable{w w':Ad}{B vb db:Y}{V V':Vl}{k:Y}
def ZO(h:VAt w B vb db V)(ho:VOk V k)(hk:k<=800000000)(hG:DE w)(bl:0<B)(p:Bg)(hp:Alz p<=1000000)(l:H)(t0:-9223372036854775808<=l)(t1:l<=9223372036854775807):Bm eD 30 [.pointer (J ⟨vb,0,Aa⟩),str p,Bb l] w fun v w'=>v=Bb (((Gu V p l).2:Y):H)/\VAt w' B vb db (Gu V p l).1/\Tm w w' B vty:=by
 obtain⟨A,cc⟩:=aP ho 2;have cm:=ZJ h ho p X;have cn:=ho.len;have aj:=@kP V p;unfold Gu;generalize(CD V p).2=e at cm aj;generalize(CD V p).1=m at cm aj;refine Bw func30 Z ntmps30 Bi Z ?_;refine(O 8∘Zc cm) ?_;rintro _ wa⟨rfl,G⟩;refine(O 3∘Zn) ?_;rintro W wb bn ck bd;refine(Zs ck (hlt:=Bq _)) ?_;rintro wc a0 ce;refine(O 8) ?_;replace a0:Bk wc W 60 m.cells:=a0;have xc:Be w wc:=Bp (G.trans bd) ce (G.trans bd).size (by simp;have:=G.size;omega);have hc:=h.a xc;have cp:=ho.E.cap;refine Zi (fun E=>?_) fun E=>?_
 .rw[Aj (show e≠0 by omega)];refine(O 5∘Bu) ?_;exact⟨Z,hc,Tm.Akj xc _ _⟩
 .rw[Ag (show ¬e≠0 by omega)];obtain⟨u,b0⟩:=hc.u;have hb:=b0.bk
  have cq:∀k,Pi u=J k->k≠W:=fun k hk=>by
   obtain⟨_,⟨u0,q1,q2⟩,_⟩:=h
   have e0:u0=u:=by
    have a:=(q1.a xc).I (i:=3) Z;have b:=hb.I (i:=3) Z;rw[a]at b;exact Qf.inj b
   rw[<-e0]at hk;have:=(q2.lt k hk).2;have:=G.size;omega
  have b8:=Mq V.i;obtain⟨j0,hX⟩:∃j0,j0=BY V.i++[(l,m.p)]:=⟨_,Z⟩;have b5:Alz j0=Alz V.i+1:=by rw[hX,Bx,b8];rfl
  have b4:Ei j0=Ei (BY V.i)++[xcells (l,m.p)].flatten:=by rw[hX,PG];simp
  rw[<-hX];refine(O 3)<|Lc (fun((_u,wz):Unit×Ad)=>(Be wc wz,[(0,.pointer (J ⟨vb,0,Aa⟩)),(2,Bb (l:H)),(7,.pointer (J ⟨W,0,Aa⟩)),(41,.bool (decide ((¬Jq j0 V.D.cap=0))))],wz)) ?_ ?_
  .skip
   refine(Yr 18 (fun w'=>Be wc w') (Be.drew wc)) fun d=>(Gv [0,1,2,4,5]∘Yw 6 (he:=by exact fun _ P=>Bo (a0.a P))∘Gv [7,10,11,12,13]∘Yw 14 (he:=by exact fun _ P=>Bo (hb.a P)))<|Ye 3 8 ?_ ?_
   .refine(Jc 3 ((UU (hc.a d) X).mono fun _ _ q=>Il (Bn.l q.1 d.size) q.2)) ?_;rintro v3 w3⟨o,ai⟩;refine⟨d.trans ai,fun d=>?_⟩;refine GB 8 1 ([xcells (l,m.p)]) Z Bi Z Z iv LK Z Bc Z Z Z (by first|(intro v Q;obtain⟨f,hf,rfl⟩:=Cr.1 Q;rfl)|(simp;done)|(simp;rfl)) Bc ?_;rintro eb w8 bq h8 af;refine⟨d.trans af,fun d=>?_⟩;have o:=o.a af;refine GW.append 9 0 Z Bi Z Z iv LK Z Bc Z Z (o.l (BC _)) (Src.Akm (m:=1) iv (Sl.Akk h8 h8.lt) Z (Wm [(l,m.p)]) Bc) CB X (BC _) ?_;rintro v9 w9 g ba cb;obtain⟨A9,c9,rfl,_,_⟩:=g.slice;refine⟨d.grown ba fun k hk=>(o.lt k hk).1,fun d=>?_⟩;refine(Yc 15 (HQ (hc.a d).E ho.E)) ?_;rintro _ _⟨rfl,rfl⟩;refine⟨d,fun d=>?_⟩;refine(Yc 16 (by have:=Tk j0 X V.D.cap A9 c9 _ w9 (by obtain⟨_,_,e9,_,sl⟩:=g.slice;cases e9;rw[b4];exact sl);rw[b5]at this;exact this)) ?_;rintro _ a4⟨rfl,y⟩;refine⟨d.trans y,fun d=>?_⟩;have g:=g.a y;refine(Gv [17]∘Yd∘Lm ((),a4)) ?_;exact d
   .refine TG 8 1 ([xcells (l,m.p)]) Z Z Z iv LK Z Bc Z Z Z (by first|(intro v Q;obtain⟨f,hf,rfl⟩:=Cr.1 Q;rfl)|(simp;done)|(simp;rfl)) Bc ?_;rintro eb w8 bq h8 af;refine⟨d.trans af,fun d=>?_⟩;refine(Yc 3 ((UU (hc.a d) X).mono fun _ _ q=>Il (Bn.l q.1 d.size) q.2)) ?_;rintro v3 w3⟨o,ai⟩;refine⟨d.trans ai,fun d=>?_⟩;have h8:=h8.a ai;refine GW.append 9 0 Z Bi Z Z iv LK Z Bc Z Z (o.l (BC _)) (Src.Akm (m:=1) iv (Sl.Akk h8 h8.lt) Z (Wm [(l,m.p)]) Bc) CB X (BC _) ?_;rintro v9 w9 g ba cb;obtain⟨A9,c9,rfl,_,_⟩:=g.slice;refine⟨d.grown ba fun k hk=>(o.lt k hk).1,fun d=>?_⟩;refine(Yc 15 (HQ (hc.a d).E ho.E)) ?_;rintro _ _⟨rfl,rfl⟩;refine⟨d,fun d=>?_⟩;refine(Yc 16 (by have:=Tk j0 X V.D.cap A9 c9 _ w9 (by obtain⟨_,_,e9,_,sl⟩:=g.slice;cases e9;rw[b4];exact sl);rw[b5]at this;exact this)) ?_;rintro _ a4⟨rfl,y⟩;refine⟨d.trans y,fun d=>?_⟩;have g:=g.a y;refine(Gv [17]∘Yd∘Lm ((),a4)) ?_;exact d
  .rintro⟨_,wz⟩a6;have xz:=xc.trans a6;have hz:=b0.a a6;have ch:=a0.a a6;refine Zi (fun N=>?_) fun N=>?_
   .rw[Aj (fun q=>N ((Ro j0 V.D.cap).2 q))];refine(O 4∘Bu) ?_;exact⟨Z,hz.at_,Tm.Akj xz _ _⟩
   .have a7:OkX j0 V.D.cap:=(Ro j0 V.D.cap).1 (Dd.1 N);rw[Ag (Dd.2 a7)];have bx:=a7.fit (m.start,m.p) (by rw[hX];exact WR _ (QA (aj X).1));have bs:=a7.fit (l,m.p) Bf;unfold HT at bx bs;simp only at bx bs;have cr:=aQ hz ho X (hG.a xz) 2 Bc;have bf:=A.sm;have bh:=A.E;generalize CN V 2=R at cr A cc bf bh;refine(O 7∘Zc cr) ?_;rintro _ wd⟨rfl,hd,td⟩;refine(O 7) ?_;have a5:Tm w wd B vty:=(Tm.Akj xz _ _).trans td;have cj:=td.bk ch Bc;refine Zi (fun b7=>?_) fun b7=>?_
    .rw[Aj (show R.2≠0 by omega)];refine(O 5∘Bu) ?_;exact⟨Z,hd.at_,a5⟩
    .rw[Ag (show ¬R.2≠0 by omega)];refine(O 9) ?_;obtain⟨n,hn⟩:∃n,n=m.p.toNat:=⟨_,Z⟩;rw[<-hn];refine Lo (fun((i,D,wr):Y×Dv×Ad)=>(i<=n/\Nl m.start l n 0 R.1.D=Nl m.start l (n-i) i D/\D.q/\Sm D (k+6+2*i)/\VAu wr B vb db { R.1 with D:=D } u/\Bk wr W 60 m.cells/\Tm wd wr B vty,[(0,.pointer (J ⟨vb,0,Aa⟩)),(2,Bb (l:H)),(7,.pointer (J ⟨W,0,Aa⟩)),(50,Bb (m.p:H)),(51,Bb i)],wr,n-i)) (0,R.1.D,wd) ?_ ?_
     .exact⟨BC _,Z,bh,bf,hd,cj,Tm.refl _ _ _⟩
     .rintro⟨i,D,wr⟩⟨hi,j,a2,a1,Q,b2,tr⟩;refine(O 5)<|Zi (fun a9=>?_) fun a9=>?_
      .obtain⟨f,hf⟩:∃f,n-i=f+1:=⟨n-i-1,X⟩;rw[hf]at j;rw[Nl]at j;have b1:=Q.bk;have cr:=mF (Q.E.a (Be.drew wr)) a2 (a1.small X) (m.start+i) X X;have c1:=mG a2 (m.start+i);have c2:=Abz a1 (m.start+i);have c3:=Aby (D:=D) (m.start+i);generalize D.read (m.start+i)=r at j cr c1 c2 c3;refine(O 9∘Yr 15 (fun w'=>Bk w' vb 82 (HH db { R.1 with D:=D } u)/\Bk w' W 60 m.cells) (Il b1.drew b2.drew)) fun d=>(Gv [0,1,2,3,4,5,6,7,8]∘Yc 9 cr) ?_;rintro _ we⟨rfl,al,T⟩;refine⟨⟨T.bk d.1 Bc,T.bk d.2 Bc⟩,fun d=>?_⟩;refine(Gv [10,11,12,13,14]∘Yd∘O 6) ?_;have E:VAu we B vb db { R.1 with D:=r.1 } u:=(Q.a (Be.drew wr)).dev_tm al T;have K:Tm w we B vty:=a5.trans (tr.trans ((Tm.Akj (Be.drew wr) _ _).trans (Tm.vty T)));refine Zi (fun cf=>?_) fun cf=>?_
       .have a3:r.2.2≠0:=X;rw[Aj a3]at j;rw[j,Ur (c:=(r.1,r.2.2)) a3];refine(O 6∘Zc (OI E r.2.2)) ?_;rintro _ I⟨rfl,C,tf⟩;refine(O 2∘Bu) ?_;rw[show(({ R.1 with D:=r.1 }:Vl).N||decide (r.2.2≠0))=Af by grind]at C;exact⟨Z,C.at_,K.trans tf⟩
       .rw[Ag (show ¬r.2.2≠0 by omega)]at j;have cw:=PE al c1 (c2.small X) (l+i) X X r.2.1 X;have c4:=NR c1 (l+i) r.2.1;have c5:=PF c2 (l+i) r.2.1;generalize r.1.write (l+i) r.2.1=s at j cw c4 c5;refine(O 7∘Zv (Bo d.1)∘O 4∘Zc cw) ?_;rintro _ I⟨rfl,cg,tf⟩;refine(O 7) ?_;have C:VAu I B vb db { R.1 with D:=s.1 } u:=E.dev_tm cg tf;have S:Tm w I B vty:=K.trans (Tm.vty tf);refine Zi (fun bb=>?_) fun bb=>?_
        .have x:s.2≠0:=X;rw[Aj x]at j;rw[j,Ur x];refine(O 6∘Zc (OI C s.2)) ?_;rintro _ wg⟨rfl,L,tg⟩;refine(O 2∘Bu) ?_;rw[show(({ R.1 with D:=s.1 }:Vl).N||decide (s.2≠0))=Af by rw[AM x,Bool.or_true]]at L;exact⟨Z,L.at_,S.trans tg⟩
        .rw[Ag (show ¬s.2≠0 by omega)]at j;refine(O 6)<|Lb ((i+1),s.1,I) ?_;exact⟨X,Bf,c4,c5.l X,C,tf.bk d.2 Bc,tr.trans ((Tm.Akj (Be.drew wr) _ _).trans ((Tm.vty T).trans (Tm.vty tf)))⟩
      .rw[show n-i=0 by omega]at j;rw[Nl]at j;rw[j,Xo];have b1:=Q.bk;have b6:=Tp Q.E a2 (a1.small X);have c6:=bB a2;have c7:=bC a1;generalize D.w=s at b6 c6 c7;refine(O 9∘Zc b6) ?_;rintro _ we⟨rfl,al,T⟩;refine(O 7) ?_;have E:VAu we B vb db { R.1 with D:=s.1 } u:=Q.dev_tm al T;have K:Tm w we B vty:=a5.trans (tr.trans (Tm.vty T));refine Zi (fun bb=>?_) fun bb=>?_
       .have x:s.2≠0:=X;rw[Aj x];refine(O 6∘Zc (OI E s.2)) ?_;rintro _ wg⟨rfl,L,tg⟩;refine(O 2∘Bu) ?_;rw[show(({ R.1 with D:=s.1 }:Vl).N||decide (s.2≠0))=Af by rw[AM x,Bool.or_true]]at L;exact⟨Z,L.at_,K.trans tg⟩
       .rw[Ag (show ¬s.2≠0 by omega)];have b3:=T.bk b2 Bc;refine(O 5∘Zt b3 (hlt:=(by decide:(1:Y)<5))) ?_;rintro I bc a8;refine(O 2) ?_;replace bc:Bk I W 60 ({ m with start:=l }:M).cells:=bc;have bm:B<=W:=BA (BA h.E.lt.1 (RW h.E.lt.2)) (BA G.size bn);have t:=Tm.set b3 a8 bm;have C:VAu I B vb db { R.1 with D:=s.1 } u:=⟨E.E.tm t Bc Bc Bc Bc Bc Bc,t.bk E.bk Bc,E.y.j a8 fun k hk=>by grind,E.G⟩;have S:Tm w I B vty:=Tm.fresh K a8 (by simp;have:=G.size;omega);have b9:VOk { R.1 with D:=s.1 } (k+6+2*i+1):=⟨c6,c7,A.gen,A.next,A.ok,A.len,A.g⟩;have bj:=aj X;have bi:=ho.ok m bj.1;have cd:=ho.g m bj.1;have cl:DE I:=LC hG S bl;refine(Yr 8 (fun w'=>Bk w' W 60 ({ m with start:=l }:M).cells) bc.drew) fun d=>(Gv [0,1,2]∘Yw 3 (he:=by exact fun _ P=>BX P)∘Yw 4 (he:=by exact fun _ _=>LO (pl:=[(0,1),(1,5)]) (ks:=[0,1]) (zs:=[Bb 0,str [],Bb 0,Bb 0,Bb 0,.int .u32 0]) li MO Bi Z Z Z)) ?_;refine GB 5 1 ([(⟨1,{ m with start:=l }⟩:Nt).cells]) Z Bi Z Z iI MO Z Bc Z Z Z (by repeat' (first|exact Lh _|refine Lg.2 ⟨by first|rfl|assumption,?_⟩)) Bc ?_;rintro nb wg co ao ab;refine⟨d.a ab,fun d=>?_⟩;replace ao:Bk wg nb 116 (CR [⟨1,{ m with start:=l }⟩]):=ao;refine(Yc 6 (XT ((C.a (Be.drew I)).a ab).at_ b9 X ((cl.a (Be.drew I)).a ab) bl [⟨1,{ m with start:=l }⟩] Bh (fun n hn=>by rw[Cp.1 hn];exact⟨⟨bi.g,bi.sum⟩,cd⟩) (J ⟨nb,0,Aa⟩) 1 (nb+1) (Sl.Akk ao (PZ _)) (fun w' t=>Sl.Akk (t.bk ao Bc) (PZ _)))) ?_;rintro _ wh⟨rfl,ca,th⟩;refine⟨th.bk d Bc,fun d=>?_⟩;refine(Gv [7]∘Yd∘Bu) ?_;exact⟨Z,ca,S.trans ((Tm.Akj (Be.drew I) _ _).trans ((Tm.Akj ab _ _).trans th))⟩
end
end
section
open Rec Pth Dsk Wal
def TxS(w:Ad)(C:Y):Bl->Ae (Ae Nt)->Prop
 |[],[]=>True
 |v::vs,l::ls=>(∃A c,v=.slice A (Alz l) c/\Sl w C A (CR l))/\TxS w C vs ls
 |_,_=>False
def TxS.at_{w:Ad}{B:Y}:∀{vs:Bl} {ls:Ae (Ae Nt)},TxS w B vs ls->∀(i:Y) (hi:i<Alz ls),∃A c,vs[i]? =J (.slice A (Alz (ls[i])) c)/\Sl w B A (CR ls[i])
 |[],[],_,i,hi=>by grind
 |v::vs,l::ls,⟨⟨A,c,e,h1⟩,h2⟩,0,hi=>⟨A,c,Bf,h1⟩
 |v::vs,l::ls,⟨h1,h2⟩,i+1,hi=>by
  obtain⟨A,c,h3,h4⟩:=TxS.at_ h2 i Bf;grind
 |[],_::_,h,_,_=>h.elim
 |_::_,[],h,_,_=>h.elim
def HO.txs{w:Ad}{B:Y}:∀{vs:Bl} {ls:Ae (Ae Nt)},HO w B vs ls->TxS w w.heap.size vs ls
 |[],[],_=>trivial
 |v::vs,l::ls,⟨h1,h2⟩=>by
  obtain⟨A,c,e,_,h3⟩:=h1.slice;exact⟨Bf,HO.txs h2⟩
 |[],_::_,h=>h.elim
 |_::_,[],h=>h.elim
end
section
open Pth Rec Srt Dsk Wal Cat
noncomputable def DI(l:Ae M)(ls:Ae (Ae Nt)):Ae M:=ls.foldl Dm l
def YO(l:Ae M)(a:Ae (Ae Nt))(ns:Ae Nt):DI l (a++[ns])=Dm (DI l a) ns:=by
 unfold DI;simp
structure MsOk(l:Ae M):Prop where
 ok:∀m∈l,m.q
 len:Alz l<=1000
 g:∀m∈l,Alz m.g<=2000000
inductive Finds(D:Dv):H->Ae M->Dv->Prop
 |none:(HD D).2.2=230->(HD D).2.1=[]->Alz D.now/512<=5->Finds D (-1) [] (CQ D)
 |some {g:H} {l:Ae M} {ls:Ae (Ae Nt)} {nx:Y}:HD D=(g,l,0)->JX (CQ D) g=((ls,nx),0)->0<=g->g<4611686018427387904->(∀i,i<=Alz ls->MsOk (DI l (ls.take i))/\(1<=i->Lp (DI l (ls.take i)) D.cap=0))->
  (∀ns∈ls,Alz ns<=1000/\∀n∈ns,n.mem.q/\Alz n.mem.g<=2000000)->Alz ls<=1000->Finds D g (DI l ls) (Fo (CQ D) g)
def Finds.fine{D d:Dv}{g:H}{a:Ae M}(h:Finds D g a d):MsOk a/\-1<=g/\g<4611686018427387904:=by
 cases h with
 |none h1 h2 h3=>exact⟨⟨Bh,Bh,Bh⟩,Bc,Bc⟩
 |some h1 h2 h3 h4 h5 h6 h7=>
  have:=(h5 _ (Bq _)).1;grind
def Finds.E{D a:Dv}{g:H}{f:Ae M}{k:Y}(h:Finds D g f a)(j:D.q)(i:Sm D k):a.q/\Sm a (k+31):=by
 have e:=kr j;have d:=ku i;cases h with
 |none _ _ _=>exact⟨e,d.l X⟩
 |some _ _ _ _ _ _ _=>exact⟨Acn e _,(Aco d _).l X⟩
def lK{w:Ad}{B o k:Y}{D C:Dv}{g:H}{f:Ae M}(h:Ce w B o D)(hD:D.q)(hs:Sm D k)(hk:k<=800000000)(hG:DE w)(P:0<B)(bx:30<D.cap)(hl:D.dead=Ai)(hf:Finds D g f C):
 Bm eD 15 [.pointer (J ⟨o,0,Aa⟩)] w fun v w'=>((CO C (g+1) f).2=0/\(∃vb,v=.tuple #[.pointer (J ⟨vb,0,Aa⟩),Bb ((0:Y):H)]/\VAt w' B vb o ⟨(CO C (g+1) f).1,g+1,0,f,Ai⟩)∨(CO C (g+1) f).2≠0/\v=.tuple #[.pointer Aa,Bb (((CO C (g+1) f).2:Y):H)]/\Ce w' B o (CO C (g+1) f).1)/\Tm w w' B Cb:=by
 obtain⟨a7,b5,b4⟩:=hf.fine;have a:=h.lt;have a5:=kr hD;have bh:=ku hs;refine Bw func15 Z ntmps15 Bi Z ?_;refine(O 10∘Zc (HQ h hD)) ?_;rintro _ _⟨rfl,rfl⟩;refine(O 3∘Ci 13∘O 4∘Zc (HQ h hD)) ?_;rintro _ _⟨rfl,rfl⟩;refine(O 3∘Ci 17∘O 4) ?_;have cd:=Qt h hD;rw[hl]at cd;refine(Zc cd) ?_;rintro _ _⟨rfl,rfl⟩;refine(O 8) ?_;have cl:=tv hD hs X B o w hG P h;obtain⟨V,bc⟩:=hf.E hD hs;obtain⟨L,hL⟩:∃L,L=HD D:=⟨_,Z⟩;rw[<-hL]at cl;obtain⟨lg,p,le⟩:=L;simp only at cl;have b1:(CQ D).now=D.now:=by unfold CQ;split<;>rfl
 have bm:(CQ D).cap=D.cap:=by unfold CQ;split<;>rfl
 refine(Zc cl) ?_;rintro _ w1⟨⟨u,rfl,x⟩,T,t1⟩;refine(O 9)<|Lc (fun((u2,E):Ah×Ad)=>(Bn E B 60 5 u2 (Alz f) (Dz f)/\Ce E B o C/\Tm w E B Cb,[(0,.pointer (J ⟨o,0,Aa⟩)),(4,Bb (g:H)),(5,u2)],E)) ?_ ?_
 .have bi:=hf;rcases bi with⟨e1,e2,e3⟩|@⟨_,l0,d,nx,e1,e2,e3,e4,e5,e6,e7⟩
  .rw[<-hL]at e1 e2;have e1:le=230:=e1;have e2:p=[]:=e2;subst e1 e2;refine(O 6∘Zoa 60 (e:=Z)∘O 1∘Zc (Nv T a5)) ?_;rintro _ _⟨rfl,rfl⟩;refine(O 4∘Ci 57 (e:=by grind)∘O 7∘EF 65 (e:=Z)∘O 5∘Lm (u,w1)) ?_;exact⟨Bn.l x (BA a.1 (RW a.2)),T,t1⟩
  .rw[<-hL]at e1
   obtain⟨rfl,rfl,rfl⟩:lg=g/\p=l0/\le=0:=by
    grind
   refine(O 6∘Kw 60∘O 13∘Ci 65∘O 7∘Ci 68∘O 5) ?_;have cr:=Acm a5 bh X B o lg w1 T;rw[e2]at cr;refine(Zc cr) ?_;rintro _ w3⟨⟨vt,vs,rfl,bd,ao⟩,Q,t3⟩;refine(O 14) ?_;obtain⟨A3,c3,rfl,_,a3⟩:=bd.slice;refine(Ci 38∘O 10) ?_;have b0:Alz vs=Alz d:=ao.len;have al:=ao.txs;have G:=t1.trans t3;have b6:DI p (d.take 0)=p:=rfl;have ba:=HQ Q V;have y:(Fo (CQ D) lg).cap=D.cap:=bm;rw[y]at ba;have zb:B<=w3.heap.size:=BA a.1 (BA (RW a.2) G.size);have N:=Bn.l (t3.y x Bc) (BA a.1 (RW a.2));refine Lo (fun((i,um,wr):Y×Ah×Ad)=>(i<=Alz d/\Bn wr B 60 5 um (Alz (DI p (d.take i))) (Dz (DI p (d.take i)))/\Be w3 wr,[(0,.pointer (J ⟨o,0,Aa⟩)),(4,Bb (lg:H)),(5,um),(40,.slice A3 (Alz d) c3),(41,Bb ((Alz d:Y):H)),(42,Bb i)],wr,Alz d-i)) (0,u,w3) ?_ ?_
   .exact⟨BC _,N,Be.refl _⟩
   .rintro⟨i,um,wr⟩⟨hi,q,r⟩;refine(O 5)<|Zi (fun m=>?_) fun m=>?_
    .obtain⟨An,cn,aj,a0⟩:=al.at_ i m;obtain⟨b3,o3,rfl,_,bn⟩:=(a3.a r).at_ X;have t:=a0.a r;obtain⟨q1,q2⟩:=e6 _ (BL m);obtain⟨m1,_⟩:=e5 i hi;obtain⟨W,m3⟩:=e5 (i+1) X;have j:DI p (d.take (i+1))=Dm (DI p (d.take i)) d[i]:=by rw[(CX m).symm,YO]
     rw[j]at W m3;have a8:=bn i _ aj;have a9:DE wr:=(LC hG G P).a r;generalize b2:d[i]=ns at aj a0 t a8 q1 q2 W m3 j;generalize DI p (d.take i)=ml at q m1 W m3 j;obtain⟨Am,bs,rfl,_,a1⟩:=q.slice;refine(O 6∘Zv (BR a8)∘O 6∘Zc (bW ml m1.g (by have:=m1.len;omega) ns (fun n hn=>(q2 n hn).2) X Am An bs cn _ _ wr a9 a1 t)) ?_;rintro v4 w4⟨af,a4,l,K⟩;refine(O 6) ?_;have ha:=Uv a4;rw[ha]at W m3 j;obtain⟨A4,c4,rfl,_,a2⟩:=l.slice;refine(Zc (HQ ((Q.a r).a K) V)) ?_;rintro _ _⟨rfl,rfl⟩;refine(Zc (UF af W.ok (by have:=W.len;omega) _ A4 c4 _ w4 (a9.a K) a2)) ?_;rintro _ w5⟨rfl,ai⟩;refine(O 2∘Ci 53 (e:=by exact fun h=>h (by rw[y];exact m3 X))∘O 7)<|Lb ((i+1),(.slice A4 (Alz af) c4:Ah),w5) ?_;refine⟨m,?_,r.trans (K.trans ai)⟩;rw[j];exact Bn.l (l.a ai) (BA zb r.size)
    .obtain rfl:i=Alz d:=X;rw[Dh (Bq _)]at q;refine(O 6∘Ci 56∘O 3∘Lm (um,wr)) ?_;exact⟨q,Q.a r,G.trans (Tm.Akj r _ _)⟩
 .rintro⟨u2,E⟩⟨ho,bj,tz⟩;obtain⟨A,c,rfl,_,bb⟩:=ho.slice;have cs:=nw V bc X B o (g+1) X X f (by have:=a7.len;omega) a7.ok A c _ E (LC hG tz P) bj bb;generalize CO C (g+1) f=S at cs;have zw:w.heap.size<=E.heap.size:=tz.size;refine(O 7∘Zc cs) ?_;rintro _ w8⟨rfl,bl,t8⟩;refine(O 7) ?_;have ab:=tz.trans t8;refine Zi (fun he=>?_) fun he=>?_
  .refine(O 6∘BF) ?_;grind
  .refine(O 8∘Zv (by exact LO (pl:=[(0,5)]) (ks:=[0]) (zs:=[.pointer Aa,Bb 0,Bb 0,.slice Aa 0 0,.bool Ai]) iO ti82 Bi Z Z Z)) ?_;refine Dq Z Z Z ?_;rintro vb w9 a6 bq I;refine(O 3∘BF) ?_;have bf:=t8.y ho Bc;have e0:S.2=0:=X;exact⟨.inl ⟨e0,vb,Z,⟨bl.a I,⟨_,bq,bf.a I⟩,BA a.1 (BA (RW a.2) (BA ab.size a6))⟩⟩,ab.trans (Tm.Akj I _ _)⟩
end
section
open Pth Rec Srt Dsk Wal Cat Tar
def yZ(w:Ad)(p:AB)(n:Y):Mo w (w.freeze p n) [p.block]:=by
 unfold World.freeze;split
 .exact Mo.refl _ _
 .exact⟨Z,Z,Z,Bh,fun k _ a=>by
   grind⟩
def sR(B b:Y)(l:Bg)(w:Ad)(h:Bd w B b l)(h0:l≠[])(j:Alz l<=140737488355328)(E:B<=w.heap.size):
 Bm eD 51 [.pointer (J ⟨b,0,Aa⟩)] w fun r w'=>r=str l/\Below B w w'/\Tm w w' B (fun T=>T==5):=by
 obtain⟨y,p,v,C,n,D,d⟩:=h;refine Bw func51 Z ntmps51 Bi Z ?_;refine(O 5) ?_;have f:Alz l≠0:=fun z=>h0 (Im z);have a:=d.2;rcases a with⟨_,o⟩|⟨g,A,rest,rfl,m,e,i,x,t⟩
 .exact AH o f
 .refine Kk 10 Bi Bi<|HW.val Z Z (EX.move Z)<|HW.val Z Z (DU Z)<|HW.val Z Z (Dw (off:=1) iP Z Z Rs Z Z)<|HW.val Z Z (CV im Z Z (n.I Z))<|HW.val Z Z (dj X Z)<|HW.val Z Z (EX.move Z)<|HW.val Z Z (DU Z)<|HW.val Z Z (Dw (off:=1) iP Z Z Rs Z Z)<|HW.val Z Z (CV im Z Z (n.I Z))<|HW.val Z Z (PN im Z)<|HW.tail<|(Zv (by exact dq (g:=g) (l:=l) (rest:=rest) qr Bi (e.drewN _) h0 X Z Z)∘O 2∘Bu) ?_;exact⟨Z,Lib.below_freeze (Uw (Below.refl B w) _) (p:=⟨g,0,Aa⟩) m _,(Tm.Akj (Be.drewN w _) _ _).trans ⟨[g],yZ _ ⟨g,0,Aa⟩ _,fun k q=>by rw[Cp.1 q];exact⟨m,_,_,e.drewN _,Z⟩⟩⟩
def sJ(b n:Y)(p:Ah)(A:Av AB)(c:Y)(w:Ad)(a:Bk w b 102 [p,.slice A n c]):Bm eD 63 [.pointer (J ⟨b,0,Aa⟩)] w fun v w'=>v=Bb (n:H)/\w=w':=by
 refine Bw func63 Z ntmps63 (by rfl) Z ?_;refine(O 13∘Bu) ?_;simp
def Bd.j{w w':Ad}{B b:Y}{l:Bg}{S:Bj}(h:Bd w B b l)(hm:Mo w w' S)(j:∀k∈S,k<B):Bd w' B b l:=by
 obtain⟨i,p,v,g,f,e,a⟩:=h;exact⟨i,p,v,g,f.j hm (fun q=>by grind),e,Bn.j a hm fun k d q=>by have:=(a.lt k d).1;grind⟩
def Yx(D:Dv)(vk vn vp vq:Ah):Bl:=[Bb (D.cap:H),vk,vn,vp,Bb (D.at_:H),vq,.bool D.dead,Bb (D.calls:H)]
def VN(s:Bg)(a i:Y)(h:(a+i+1)*512<=Alz s):(s.drop (a*512)).take ((i+1)*512)=(s.drop (a*512)).take (i*512)++BS s (a+i):=by
 unfold BS;have:=List.take_add (l:=s.drop (a*512)) (i:=i*512) (j:=512);rw[show i*512+512=(i+1)*512 by omega,Gj,show a*512+i*512=(a+i)*512 by omega]at this;omega
structure Stands(D:Dv)(m:M)(x:En):Prop where
 fits:Fits x
 start:0<=m.start
 p:0<=m.p
 size:m.size=(Alz x.data:H)
 sum:m.sum=Ff x.data
 len:m.p.toNat*512=Alz (BU x)
 now:(D.now.drop (m.start.toNat*512)).take (m.p.toNat*512)=BU x
section
variable{w w':Ad}{B vb db:Y}{V V':Vl}{k:Y}
def gO(h:VAt w B vb db V)(ho:VOk V k)(hk:k<=800000000)(hG:Env w)(b4:∀w',Tm w w' B vty->Env w')(p x:Bg)(m:M)(hm:CD V p=(m,0))(f:Stands V.D m ⟨p,x⟩)(ck:¬(V.N=Af∨V.D.dead=Af)):
 Bm eD 28 [.pointer (J ⟨vb,0,Aa⟩),str p] w fun v w'=>v=.tuple #[str x,Bb ((0:Y):H)]/\VAt w' B vb db { V with D:=CZ V.D m.p.toNat }/\Tm w w' B vty:=by
 have b7:V.D.dead=Ai:=by
  rcases e:V.D.dead with _|_
  .rfl
  .grind
 have b5:=KD f.fits;have cg:=ho.E.cap;have cc:=ho.E.now;obtain⟨n,hn⟩:∃n,n=m.p.toNat:=⟨_,Z⟩;obtain⟨a,ha⟩:∃a,a=m.start.toNat:=⟨_,Z⟩;have h1:=f.start;have h2:=f.p;have h3:=f.len;have h4:=f.now;rw[<-hn]at h3 h4;rw[<-ha]at h4
 have cn:(a+n)*512<=Alz V.D.now:=by
  have:=AF DQ h4;rw[BW,CA]at this;omega
 have a7:=f.size;have a8:=f.sum;have cj:Alz p<=120:=(Qq f.fits.g).2.2.1;have ch:Alz x<=8192:=f.fits.data;simp only at a7 a8;have cm:=ZJ h ho p X;rw[hm]at cm;simp only at cm;rw[<-hn];refine Bw func28 Z ntmps28 Bi Z ?_;refine(O 9∘Zc cm) ?_;rintro _ wa⟨rfl,a0⟩;refine(O 3∘Zn) ?_;rintro mb wb ce b8 a5;refine(Zs b8 (hlt:=Bq _)) ?_;rintro C t b3;refine(O 8) ?_;replace t:Bk C mb 60 m.cells:=t;have xc:Be w C:=Bp (a0.trans a5) b3 (a0.trans a5).size (by simp;have:=a0.size;omega);obtain⟨u,L⟩:=(h.a xc).u;refine(Ci 21∘O 4∘Zn) ?_;rintro bb wd ba bi K;refine(O 5) ?_;have cl:Bd wd C.heap.size bb []:=Bd.new ba bi;obtain⟨vk,vn,vp,vq,vs,d⟩:=L.E;have lm:=t.lt;have ld:=L.E.lt;have lv:=L.bk.lt;have zc:=K.size;have aj:vb≠db:=L.bk.ne d.cells Bc;have al:mb≠db:=t.ne d.cells Bc;obtain⟨E,hE⟩:∃E,E=BU ⟨p,x⟩:=⟨_,Z⟩;rw[<-hE]at h3 h4 b5;refine(Zv (Bo (t.a K))∘O 3)<|Lo (fun((i,wr):Y×Ad)=>(i<=n/\Bd wr C.heap.size bb (E.take (i*512))/\Bk wr db 85 (Yx (CZ V.D i) vk vn vp vq)/\Mo C wr [db],[(0,.pointer (J ⟨vb,0,Aa⟩)),(1,str (p)),(6,.pointer (J ⟨mb,0,Aa⟩)),(8,.pointer (J ⟨bb,0,Aa⟩)),(24,Bb (m.p:H)),(25,Bb i)],wr,n-i)) (0,wd) ?_ ?_
 .exact⟨BC _,Bf,d.cells.a K,Mo.Akj K _⟩
 .rintro⟨i,wr⟩⟨hi,A,bf,r⟩;have bc:Dev wr B db (CZ V.D i) vk vn vp vq vs:=Dev.after d.lo d.cells r bf d.kept d.now d.apart d.pend d.chs d.keep;have bs:=L.bk.j r (by simpa using aj);have b1:=t.j r (by simpa using al);have zr:=r.size;refine(O 5)<|Zi (fun a1=>?_) fun a1=>?_
  .have hj:a+i<(CZ V.D i).now.length/512:=by
    show a+i<Alz V.D.now/512;omega
   have cr:=aG (bc.a (Be.drew wr)) (QV ho.E i) ((SZ ho.sm i).small X) b7 hj;rw[show(((a+i:Y)):H)=m.start+(i:H) by omega,SY]at cr;have o:=VN V.D.now a i Bf
   have b0:Alz (BS V.D.now (a+i))=512:=by
    have:=RX 512 (show a+i+1<=a+n by omega);unfold BS;rw[BW,CA];omega
   have a6:∀j,j<=n->E.take (j*512)=(V.D.now.drop (a*512)).take (j*512):=fun j hj=>by
    grind
   rw[<-a6 i hi,<-a6 (i+1) X]at o;have cf:Alz (E.take (i*512))<=13000000:=by rw[BW];omega
   have bm:(CZ V.D i).now=V.D.now:=rfl;rw[bm]at cr;generalize BS V.D.now (a+i)=sc at cr o b0;refine(O 9∘Yr 15 (fun w'=>Bk w' vb 82 (HH db V u)/\Bk w' mb 60 m.cells) (Il bs.drew b1.drew)) fun G=>(Gv [0,1,2,3,4,5,6,7,8]∘Yc 9 cr) ?_;rintro _ we⟨rfl,b6,N⟩;refine⟨⟨G.1.j N (by simpa using aj),G.2.j N (by simpa using al)⟩,fun G=>?_⟩;refine(Gv [10,11,12,13,14]∘Yd∘O 6) ?_;have T:Mo C we [db]:=(r.trans (Mo.Akj (Be.drew wr) _)).trans N;have bh:Bd we C.heap.size bb (E.take (i*512)):=(A.a (Be.drew wr)).j N Bf;refine(Ci 42∘O 4∘Zc (Wj C.heap.size bb (E.take (i*512)) sc we bh (fun q=>by grind) X T.size)) ?_;rintro _ wf⟨⟨_,rfl⟩,ai,af,_⟩;refine(O 6) ?_;rw[<-o]at ai;refine Lb ((i+1),wf) ?_;exact⟨X,ai,b6.cells.G af X,Mo.fresh (S:=[db]) (T.G af) (fun k hk _=>hk)⟩
  .obtain rfl:i=n:=X;rw[Dh X]at A;have ca:E≠[]:=fun q=>by grind
   have a2:=A;obtain⟨_,pp,pv,_,bj,_,a9⟩:=a2;obtain⟨Ab,cb,rfl,_,_⟩:=a9.slice;have bn:=fun w hG=>Agt ⟨p,x⟩ f.fits [] Bf w hG;rw[List.append_nil,<-hE]at bn;refine(O 3∘Zc (sR C.heap.size bb E wr A ca X r.size)) ?_;rintro _ wg⟨rfl,ab,bx⟩;have Q:Mo C wg [db]:=r.G ab;have tm:∀w',Mo C w' [db]->Tm w w' B vty:=fun w' hm=>(Tm.Akj xc _ _).trans ⟨[db],hm,fun k hk=>by rw[Cp.1 hk];exact⟨d.lo,_,_,d.cells,Bc⟩⟩;refine(Zc (bn wg (b4 wg (tm wg Q)))) ?_;rintro _ wh⟨rfl,ao⟩;refine(O 4∘Zn) ?_;rintro xb wi cd a4 a3;refine(Zs a4 (hlt:=Bq _)) ?_;rintro wj g b2;refine(O 5) ?_;replace g:Bk wj xb 64 [str p,str x]:=g;have I:Be wg wj:=Bp (ao.trans a3) b2 (ao.trans a3).size (by simp;have:=ao.size;omega);have P:Mo C wj [db]:=Q.trans (Mo.Akj I _);have W:=t.j P (by simpa using al);have bl:=(bx.bk bj Bc).a I;refine(Yr 29 (fun w'=>Be wj w') (Be.drew wj)) fun G=>(Gv [0,1,2]∘Ng 54∘Gv [3]∘Yw 4 (he:=by exact fun _ l=>Bo (g.a l))∘Gv [5,6,7,8]∘Ng 60∘Gv [9]∘Yw 10 (he:=by exact fun _ l=>Bo (g.a l))∘Gv [11,12]∘Yw 13 (he:=by exact fun _ l=>Bo (W.a l))∘Gv [14,15,16]∘Ng 68 (e:=by exact fun h=>h a7.symm)∘Gv [17]∘Yw 18 (he:=by exact fun _ l=>Bo (g.a l))∘Gv [20]∘Yw 21 (he:=by exact fun _ l=>Bo (W.a l))∘Yc 19 (Zo x X _)) ?_;rintro _ wk⟨rfl,bq⟩;refine⟨G.trans bq,fun G=>?_⟩;refine(Gv [22,23,24]∘Ng 76 (e:=by exact fun h=>h (by rw[a8]))∘Gv [25]∘Yc 26 (sJ bb (Alz E) pp Ab cb _ (bl.a G))) ?_;rintro _ _⟨rfl,rfl⟩;refine⟨G,fun G=>?_⟩;refine(Gv [27,28]∘Yd∘Ci 80∘O 5∘Zv (Bo (g.a G))∘O 3∘BF) ?_;have y:=P.trans (Mo.Akj G _);refine⟨Z,⟨?_,⟨u,L.bk.j y (by simpa using aj),L.y.j y fun k hk=>?_⟩,L.G⟩,tm _ y⟩
   .have bd:Bk wk db 85 (Yx (CZ V.D i) vk vn vp vq):=((bf.G ab X).a I).a G;exact⟨vk,vn,vp,vq,vs,Dev.after d.lo d.cells y bd d.kept d.now d.apart d.pend d.chs d.keep⟩
   .obtain⟨_,l',b9⟩:=L.y.K k hk;simpa using b9.ne d.cells Bc
end
end
section
open Pth Rec Srt Dsk Wal Cat Tar
def Er(x:En):Nt:=⟨1,⟨x.g,0,0,(Alz x.data:H),Ff x.data⟩⟩
def DJ(x:En)(p:Xt):Nt:=⟨1,⟨x.g,p.1,p.2,(Alz x.data:H),Ff x.data⟩⟩
noncomputable def Ca(x:En):H:=((Alz (BU x)/512:Y):H)
def FC:Ae En->Y
 |[]=>0
 |x::r=>if Cw x.g≠0 then 140 else if 8192<Alz x.data then 3 else FC r
noncomputable def Fm(cap:H)(E0:Ae Xt):Ae Xt->Ae En->Ae Xt×Y
 |ps,[]=>(ps,0)
 |ps,x::r=>if(Ey (E0++ps) cap (Ca x)).2≠0 then([],(Ey (E0++ps) cap (Ca x)).2)else Fm cap E0 (ps++[((Ey (E0++ps) cap (Ca x)).1,Ca x)]) r
def EG(s:Bg):Ae (Bg):=(BE (Alz s/512)).map fun k=>(s.drop (k*512)).take 512
noncomputable def writeX:Dv->Ae (Xt×En)->Dv×Y
 |D,[]=>(D,0)
 |D,(p,x)::r=>if(writes D p.1.toNat (EG (BU x))).2≠0 then writes D p.1.toNat (EG (BU x))else writeX (writes D p.1.toNat (EG (BU x))).1 r
noncomputable def putF(V:Vl)(l:Ae En)(ps:Ae Xt):Vl×Y:=
 if l=[]then(V,0)
 else if(CN V ((Alz l+1:Y):H)).2≠0 then CN V ((Alz l+1:Y):H)
 else Ni (CN V ((Alz l+1:Y):H)).1 (writeX (CN V ((Alz l+1:Y):H)).1.D (ps.zip l)) (HL DJ l ps)
noncomputable def ND(V:Vl)(l:Ae En):Vl×Y:=
 if(Fm V.D.cap (BY V.i) [] l).2≠0 then(V,(Fm V.D.cap (BY V.i) [] l).2)else putF V l (Fm V.D.cap (BY V.i) [] l).1
noncomputable def LF(V:Vl)(l:Ae En):Vl×Y:=if 16<Alz (Dm V.i (l.map Er))then(V,241)else ND V l
noncomputable def NC(V:Vl)(l:Ae En):Vl×Y:=if ¬(l.map En.g).Nodup then(V,2)else LF V l
noncomputable def Es(V:Vl)(l:Ae En):Vl×Y:=if FC l≠0 then(V,FC l)else NC V l
noncomputable def EK(V:Vl)(l:Ae En):Vl×Y:=if V.N=Af∨V.D.dead=Af then(V,190)else Es V l
def mj{l:Ae En}{i:Y}(hi:i<Alz l)(h:FC (l.take i)=0):FC l=if Cw l[i].g≠0 then 140 else if 8192<l[i].data.length then 3 else FC (l.drop (i+1)):=by
 have d:∀(a b:Ae _),FC a=0->FC (a++b)=FC b:=fun a=>by
  induction a with
  |nil=>simp
  |cons x a ih=>
   intro b h;unfold FC at h;show(if Cw _≠0 then 140 else if 8192<Alz x.data then 3 else FC (a++b))=_;grind
 have e:l=l.take i++l[i]::l.drop (i+1):=by rw[<-DD,Hx]
 conv=>lhs;rw[e]
 rw[d _ _ h];rfl
def mh{l:Ae En}(h:FC l=0):∀x∈l,Fits x:=by
 induction l with
 |nil=>simp
 |cons y l ih=>
  unfold FC at h;split at h
  .cases h
  .rename_i e;split at h
   .cases h
   .rename_i d;intro x a;rcases List.mem_cons.1 a with rfl|a
    .exact⟨X,X⟩
    .grind
def Abo{l:Ae En}{i:Y}(hi:i<Alz l)(h:FC (l.take i)=0)(h1:Cw l[i].g=0)(h2:¬8192<l[i].data.length):FC (l.take (i+1))=0:=by
 have a:i<Alz (l.take (i+1)):=by rw[BW];omega
 have:=mj a Bf;have e:(l.take _)[i]=l[i]:=Bh;rw[this,e,Ag X,Ag h2,Of (by rw[BW];omega)];rfl
def ZV(l1 l2:Ae Nt)(n:Nt)(rest:Bl)(j:Y)(f:j<6)(v:Ah)(a:Nt)(h:n.cells.set j v=a.cells):(CR (l1++n::l2)++rest).set (Alz l1*6+j) v=CR (l1++a::l2)++rest:=by
 have d:=Vo l1;have e:∀m,CR (l1++m::l2)++rest=CR l1++(m.cells++(CR l2++rest)):=Bh;rw[e,e,<-h,List.set_append,Ag X,d,Ko,List.set_append,Aj Ck]
def ZU(l1 l2:Ae Nt)(n:Nt)(rest:Bl)(j:Y)(v:Ah)(h:n.cells[j]? =J v):(CR (l1++n::l2)++rest)[Alz l1*6+j]? =J v:=by
 have a:=Vo l1;grind
def EJ(l:Ae En)(ps:Ae Xt):Ae Nt:=HL DJ (l.take (Alz ps)) ps
def lx{l:Ae En}{ps:Ae Xt}(h:Alz ps<=Alz l):Alz (EJ l ps)=Alz ps:=by
 unfold EJ;grind
def zJ{l:Ae En}{ps:Ae Xt}(h:Alz ps<Alz l)(p:Xt):EJ l (ps++[p])=EJ l ps++[DJ l[Alz ps] p]:=by
 unfold EJ;rw[Bx,CL,(CX h).symm,List.zipWith_append Bf];rfl
def Abf{cap:H}{a ps:Ae Xt}{l:Ae En}{i:Y}(h:i<Alz l):Fm cap a ps (l.drop i)=if(Ey (a++ps) cap (Ca l[i])).2≠0 then([],(Ey (a++ps) cap (Ca l[i])).2)else Fm cap a (ps++[((Ey (a++ps) cap (Ca l[i])).1,Ca l[i])]) (l.drop (i+1)):=by
 rw[DD,Fm]
def Abg{cap:H}{a ps:Ae Xt}{l:Ae En}:Fm cap a ps (l.drop (Alz l))=(ps,0):=by
 rw[IS,Fm]
end
section
open Pth Rec Srt Dsk Wal Cat Tar
def Uq(l:Ae En)(ps:Ae Xt):Prop:=∀j (h:j<Alz ps) (h':j<Alz l),30<=ps[j].1/\ps[j].1+ps[j].2<=4096/\ps[j].2=Ca l[j]
def Uq.snoc{l:Ae En}{ps:Ae Xt}(h:Uq l ps){p:Xt}(hl:Alz ps<Alz l)(h1:30<=p.1)(h2:p.1+p.2<=4096)(e:p.2=Ca l[Alz ps]):Uq l (ps++[p]):=fun j d a=>by
 by_cases q:j<Alz ps
 .rw[WO q];exact h j q _
 .grind
def zL(ns:Ae Nt)(rest:Bl){i:Y}(h:i<Alz ns)(j:Y){v:Ah}(hv:ns[i].cells[j]? =J v):(CR ns++rest)[i*6+j]? =J v:=by
 have e:ns=ns.take i++ns[i]::ns.drop (i+1):=by rw[<-DD,Hx]
 have q:=ZU (ns.take i) (ns.drop (i+1)) _ rest j v hv;rw[<-e,BW,Hi X]at q;omega
def lw{l:Ae En}{ps:Ae Xt}(h:Alz ps=Alz l){i:Y}(hi:i<Alz l)(rest:Bl)(j:Y){v:Ah}(hv:(DJ l[i] (ps[i]'X)).cells[j]? =J v):(CR (EJ l ps)++rest)[i*6+j]? =J v:=by
 have a:i<Alz (EJ l ps):=by rw[lx X];omega
 refine zL _ _ a j ?_;have e:(EJ l _)[i]=DJ l[i] (ps[i]'X):=by simp[EJ,List.getElem_take]
 grind
def zI{l:Ae En}{ps:Ae Xt}(h:Alz ps=Alz l):EJ l ps=HL DJ l ps:=by
 unfold EJ;grind
def ft(s:Bg):Ff s<4294967296:=bS _ _ _ Bh
def Akg{l:Ae En}{ps:Ae Xt}(h:∀x∈l,Alz x.g<=1000000/\Alz x.data<=140737488355328){n:Nt}(a:n∈HL DJ l ps):n.mem.q/\Alz n.mem.g<=2000000:=by
 rw[<-List.map_uncurry_zip_eq_zipWith]at a;obtain⟨⟨x,p⟩,f,rfl⟩:=Cr.1 a;have d:=(h x (List.of_mem_zip f).1).1;have i:=ft x.data;have e:∀c,c<4294967296->c<=4294967295:=X
 have g:(DJ x p).mem.sum<=4294967295:=by
  exact e _ i
 exact⟨⟨BA d Bc,g⟩,BA d Bc⟩
noncomputable def bK(c:Dv×Y)(r:Ae (Xt×En)):Dv×Y:=if c.2≠0 then c else writeX c.1 r
def Ajt{D:Dv}{l:Ae En}{ps:Ae Xt}(h:Alz ps=Alz l){i:Y}(hi:i<Alz l):writeX D ((ps.zip l).drop i)=bK (writes D (ps[i]'X).1.toNat ((EG (BU l[i])).drop 0)) ((ps.zip l).drop (i+1)):=by
 rw[DD Bf,List.getElem_zip,writeX];rfl
def Mi(s:Bg):Alz (EG s)=Alz s/512:=by unfold EG;simp
def Ajw{D:Dv}{a j:Y}{s:Bg}(h:j<Alz s/512):writes D (a+j) ((EG s).drop j)=if(D.write ((a+j:Y):H) ((s.drop (j*512)).take 512)).2=0 then writes (D.write ((a+j:Y):H) ((s.drop (j*512)).take 512)).1 (a+(j+1)) ((EG s).drop (j+1))else D.write ((a+j:Y):H) ((s.drop (j*512)).take 512):=by
 rw[DD (by rw[Mi];omega),writes];simp only[EG,Og,List.getElem_range];rfl
section
variable{w w':Ad}{B vb db:Y}{V V':Vl}{k:Y}
def aC(h:VAt w B vb db V)(ho:VOk V k)(hk:k<=700000000)(hG:Env w)(ey:0<B)(l:Ae En)(hl:Alz l<=20)(A:Av AB)(c C:Y)(hs:Sl w C A (Df l))(bj:∀x∈l,Alz x.g<=1000000/\Alz x.data<=140737488355328):
 Bm eD 32 [.pointer (J ⟨vb,0,Aa⟩),.slice A (Alz l) c] w fun v w'=>v=Bb (((EK V l).2:Y):H)/\VAt w' B vb db (EK V l).1/\Tm w w' B vty:=by
 have ca:=Xp h ho.E;have hq:=ho.len;have hw:=ho.E.cap;obtain⟨u,hu⟩:=h.u;refine Bw func32 Z ntmps32 Bi Z ?_;refine(O 8) ?_;by_cases ha:V.N=Af∨V.D.dead=Af
 .rw[Aj ha]at ca;have e:EK V l=(V,190):=Aj ha;rw[e];refine(Zc ca) ?_;rintro _ _⟨rfl,rfl⟩;refine(O 7∘EF 28∘O 6∘Bu) ?_;exact⟨Z,h,Tm.refl _ _ _⟩
 .rw[Ag ha]at ca;have e1:EK V l=Es V l:=Ag ha;rw[e1];clear e1;refine(Zc ca) ?_;rintro _ _⟨rfl,rfl⟩;refine(O 7∘Ci 28∘O 9)<|Lc (fun((_u,wr):Unit×Ad)=>(Be w wr/\FC l=0,[(0,.pointer (J ⟨vb,0,Aa⟩)),(1,.slice A (Alz l) c)],wr)) ?_ ?_
  .refine(O 1)<|Lo (fun((i,wr):Y×Ad)=>(i<=Alz l/\FC (l.take i)=0/\Be w wr,[(0,.pointer (J ⟨vb,0,Aa⟩)),(1,.slice A (Alz l) c),(30,.slice A (Alz l) c),(31,Bb ((Alz l:Y):H)),(32,Bb i)],wr,Alz l-i)) (0,w) ?_ ?_
   .exact⟨BC _,Z,Be.refl _⟩
   .rintro⟨i,wr⟩⟨hi,hp,hx⟩;refine(O 5)<|Zi (fun d=>?_) fun d=>?_
    .obtain⟨b,o,rfl,_,G⟩:=(hs.a hx).flat (l:=l) (i:=i) (c:=2) (fun _=>rfl) Bc d;have b3:=mj d hp;have el:=Abo d hp;have a8:=bj _ (BL d);generalize l[i]=x at G b3 el a8;refine(O 6∘Zv (Dj x.cells G)∘Zn) ?_;rintro xb w4 ch bs ai;refine(Zs bs (hlt:=Bq _)) ?_;rintro w5 S bi;refine(O 5) ?_;replace S:Bk w5 xb 64 x.cells:=S;have x5:Be wr w5:=Bp ai bi ai.size (fun k hk=>by simp at hk;omega);have xw:=hx.trans x5;refine(O 1∘Zc (OA x.g X w5)) ?_;rintro _ w6⟨rfl,P⟩;refine(O 2)<|Zi (fun hc=>?_) fun hc=>?_
     .have d2:Cw x.g≠0:=X
      have e:Es V l=(V,140):=by
       unfold Es;rw[b3,Aj d2,Aj Bc]
      rw[e];refine(O 4∘Bu) ?_;exact⟨Z,h.a (xw.trans P),Tm.Akj (xw.trans P) _ _⟩
     .have d2:¬Cw x.g≠0:=X;rw[Ag d2]at b3;have d3:=S.a P;refine(O 8)<|Zi (fun bn=>?_) fun bn=>?_
      .have e:Es V l=(V,3):=by
        unfold Es;rw[b3,Aj bn,Aj Bc]
       rw[e];refine(O 4∘Bu) ?_;exact⟨Z,h.a (xw.trans P),Tm.Akj (xw.trans P) _ _⟩
      .refine(O 6)<|Lb ((i+1),w6) ?_;exact⟨d,el X bn,xw.trans P⟩
    .obtain rfl:i=Alz l:=X;rw[Dh (Bq _)]at hp;refine(O 1∘Lm ((),wr)) ?_;grind
  .rintro⟨_,wr⟩⟨hx,em⟩;have e2:Es V l=NC V l:=Ag X;rw[e2];refine(O 6) ?_;refine dV Z Z ?_;rintro mb wa hr gp f8;refine(O 9) ?_;have xa:=hx.trans f8;refine Lc (fun((vn,wr):Ah×Ad)=>(Bn wr w.heap.size 116 6 vn (Alz l) (CR (l.map Er))/\Be w wr/\(l.map En.g).Nodup,[(0,.pointer (J ⟨vb,0,Aa⟩)),(1,.slice A (Alz l) c),(8,vn)],wr)) ?_ ?_
   .refine(O 1)<|Lo (fun((i,vn,wr):Y×Ah×Ad)=>(i<=Alz l/\(∃es cc,Mp wr mb es cc (NJ ((l.take i).map En.g)))/\((l.take i).map En.g).Nodup/\Bn wr w.heap.size 116 6 vn i (CR ((l.take i).map Er))/\Be w wr,[(0,.pointer (J ⟨vb,0,Aa⟩)),(1,.slice A (Alz l) c),(8,vn),(9,.map (J mb)),(46,.slice A (Alz l) c),(47,Bb ((Alz l:Y):H)),(48,Bb i)],wr,Alz l-i)) (0,(.slice Aa 0 0),wa) ?_ ?_
    .exact⟨BC _,⟨_,_,gp⟩,WT,Bn.nil _ _ _ _,xa⟩
    .rintro⟨i,vn,wr⟩⟨hi,⟨es,cc,hm⟩,dc,T,a5⟩;refine(O 5)<|Zi (fun d=>?_) fun d=>?_
     .obtain⟨b,o,rfl,_,G⟩:=(hs.a a5).flat (l:=l) (i:=i) (c:=2) (fun _=>rfl) Bc d;have a0:l.take (i+1)=l.take i++[l[i]]:=(CX d).symm;have a8:=bj _ (BL d);have h3:l[i]∈l:=BL d
      have ck:l[i].g∈(l.take i).map En.g->¬(l.map En.g).Nodup:=fun q hn=>by
       have e:l.map En.g=(l.take i).map En.g++(l[i].g::(l.drop (i+1)).map En.g):=by
        rw[<-Cm,<-DW,<-DD d,Hx]
       grind
      generalize l[i]=x at G a0 a8 ck;refine(O 6∘Zv (Dj x.cells G)∘Zn) ?_;rintro xb w4 ch bs ai;refine(Zs bs (hlt:=Bq _)) ?_;rintro w5 S bi;refine(O 6) ?_;replace S:Bk w5 xb 64 x.cells:=S;have x5:Be wr w5:=Bp ai bi ai.size (fun k hk=>by simp at hk;omega);have xw:=a5.trans x5;have a4:=hm.a x5;refine(O 1∘Zv (by exact qd ql eT ti4 Z Z a4)∘O 1)<|Zi (fun ce=>?_) fun ce=>?_
      .have e:NC V l=(V,2):=Aj (ck ce);rw[e];refine(O 4∘Bu) ?_;exact⟨Z,h.a xw,Tm.Akj xw _ _⟩
      .refine(O 6) ?_;refine OW.put Z ql eT Z Z Z (a4) ?_;rintro g8 g9 w6 b5 bh;refine(O 1) ?_
       have c0:Hp (NJ ((l.take i).map En.g)) x.g (Value.bool Af)=NJ ((l.take (i+1)).map En.g):=by
        unfold Hp;rw[Ag (by rw[nB];omega),a0];simp[NJ]
       rw[c0]at b5;have d3:=S.j bh (by simpa using a4.Alj S);have x6:Be w w6:=Bp xw bh xw.size (by simp;have:=hx.size;omega)
       have ab:Bn w6 w.heap.size 116 6 vn i (CR ((l.take i).map Er)):=Bn.j (T.a x5) bh fun k hk=>by
        obtain⟨_,l',I⟩:=(T.a x5).K k hk;simpa using a4.Alj I
       have ew:=fun k hk=>(ab.lt k hk).1
       have fs:∀k,Pi vn=J k->k≠xb:=fun k hk=>by
        obtain⟨_,l',I⟩:=ab.K k hk;exact I.ne d3 Bc
       have fv:∀k,Pi vn=J k->k≠mb:=fun k hk=>by
        obtain⟨_,l',I⟩:=ab.K k hk;exact b5.Alj I
       refine(Yr 14 (fun w'=>Be w w'/\Bk w' xb 64 x.cells) (Il (x6.trans (Be.drew w6)) d3.drew)) fun r=>(Gv [0,1,2,3,4,5,6,7]∘Yc 8 (Zo x.data X w6.drew)) ?_;rintro _ w7⟨rfl,cx⟩;refine⟨⟨r.1.trans cx,r.2.a cx⟩,fun r=>?_⟩;refine(Gv [9]∘Yw 10 (he:=by exact fun _ _=>LO (pl:=[(0,1),(1,5)]) (ks:=[0,1]) (zs:=[Bb 0,str [],Bb 0,Bb 0,Bb 0,.int .u32 0]) li MO Bi Z Z Z)) ?_;refine GB 11 1 ([(Er x).cells]) Z Bi Z Z iI MO Z Bc Z Z Z (by repeat' (first|exact Lh _|refine Lg.2 ⟨by first|rfl|assumption,?_⟩)) Bc ?_;rintro nb w8 ht e7 L;refine⟨⟨r.1.trans L,r.2.a L⟩,fun r=>?_⟩;have bx:=((Be.drew w6).trans cx).trans L;refine GW.append 12 0 Z Bi Z Z iI MO Z Bc Z Z ((ab.a bx).l (BC _)) (Src.Akm (m:=1) iI (Sl.Akk e7 e7.lt) Z (zK [Er x]) Bc) CB X (BC _) ?_;rintro v9 w9 d7 ds gc;refine⟨⟨r.1.grown ds ew,r.2.grown ds fun e=>fs xb e.symm Z⟩,fun r=>?_⟩;refine(Gv [13]∘Yd∘O 5)<|Lb ((i+1),v9,w9) ?_;refine⟨d,⟨g8,g9,(b5.a bx).of_block (ds.block mb (by have:=(b5.a bx).lt;omega) fun e=>fv mb e.symm Z)⟩,?_,?_,r.1⟩
       .rw[a0,DW,WS];grind
       .rw[a0,DW,LV,show CR ((l.take i).map Er++[Er x])=CR ((l.take i).map Er)++[(Er x).cells].flatten by simp];refine Bn.base d7 fun k hk=>?_;rcases gc with e|e
        .grind
        .rw[e]at hk;injection hk with hk;have:=x6.size;have:=bx.size;omega
     .obtain rfl:i=Alz l:=X;rw[Dh (Bq _)]at T dc;refine(O 1∘Lm (vn,wr)) ?_;grind
   .rintro⟨vn,wr⟩⟨T,a5,dc⟩;have e3:NC V l=LF V l:=Ag (fun q=>q dc);rw[e3];obtain⟨An,cn,rfl,_,eg⟩:=T.slice;have ed:=hu.a a5;obtain⟨Au,cu,rfl,_,ee⟩:=ed.y.slice
    have g6:∀n∈l.map Er,Alz n.mem.g<=2000000:=fun n hn=>by
     obtain⟨x,hx,rfl⟩:=Cr.1 hn;have:=(bj x hx).1;show Alz x.g<=_;omega
    have cw:=bW V.i ho.g X (l.map Er) g6 Bf Au An cu cn _ _ wr (DE.a hG.mlen a5) ee eg;rw[Dl]at cw;refine(O 7∘Zv (Bo ed.bk)∘O 1∘Zc cw) ?_;rintro v2 w2⟨h0,et,c1,d8⟩;obtain⟨A2,c2,rfl,_,_⟩:=c1.slice;refine(O 3) ?_;have b9:=Uv et;have x2:=a5.trans d8;refine Zi (fun a2=>?_) fun a2=>?_
    .have e:LF V l=(V,241):=by
      unfold LF;rw[b9];exact Aj a2
     rw[e];refine(O 4∘Bu) ?_;exact⟨Z,h.a x2,Tm.Akj x2 _ _⟩
    .have e4:LF V l=ND V l:=by
      unfold LF;rw[b9];exact Ag a2
     rw[e4];refine(O 6∘Zc (UU (h.a x2) X)) ?_;rintro v3 w3⟨b7,cz⟩;refine(O 14) ?_;by_cases b6:l=[]
     .have e5:ND V l=(V,0):=by
       rw[b6];unfold ND;rw[show Fm V.D.cap (BY V.i) [] []=([],0) by rfl,Ag (fun h=>h Z)];exact Aj Z
      rw[e5];have gq:Alz l=0:=by rw[b6];rfl
      refine Lo (fun((wr,_u):Ad×Unit)=>(Be w wr,[(1,.slice A (Alz l) c),(87,Bb ((Alz l:Y):H)),(88,Bb ((0:Y):H))],wr,0)) (w3,()) ?_ ?_
      .exact x2.trans cz
      .rintro⟨wr,_⟩af;refine(O 5∘Ci 89∘O 9∘EF 154∘O 5∘Bu) ?_;exact⟨Z,h.a af,Tm.Akj af _ _⟩
     .obtain⟨nb,rest,rfl,hnb1,hnb2⟩:∃nb rest,An=J ⟨nb,0,Aa⟩/\w.heap.size<=nb/\Bk wr nb 116 (CR (l.map Er)++rest):=by
       rcases T.2 with⟨_,q⟩|⟨nb,h5,rest,e,q1,q2,_⟩
       .grind
       .grind
      have x3:=x2.trans cz;have bm:=mh em;obtain⟨E0,hE0⟩:∃E0,E0=BY V.i:=⟨_,Z⟩;have g7:Alz E0=Alz V.i:=by rw[hE0];exact Mq _
      rw[<-hE0,<-g7]at b7;obtain⟨pl,hpl⟩:∃pl,pl=Fm V.D.cap E0 [] l:=⟨_,Z⟩;have e5:ND V l=if pl.2≠0 then(V,pl.2)else putF V l pl.1:=by rw[hpl,hE0];rfl
      rw[e5];have zw:=x3.size;have gn:Bk w3 nb 116 (CR (EJ l []++(l.drop 0).map Er)++rest):=(hnb2.a d8).a cz;refine Lo (fun((i,g,vu,vs,wq):Y×(Ae Xt)×Ah×Ah×Ad)=>(i<=Alz l/\pl=Fm V.D.cap E0 g (l.drop i)/\Alz g=i/\Uq l g/\Bn wq w.heap.size 121 2 vu (Alz E0+i) (Ei (E0++g))/\Bn wq w.heap.size 9 1 vs i (Da ((l.take i).map BU))/\Bk wq nb 116 (CR (EJ l g++(l.drop i).map Er)++rest)/\Be w wq,[(0,.pointer (J ⟨vb,0,Aa⟩)),(1,.slice A (Alz l) c),(8,.slice (J ⟨nb,0,Aa⟩) (Alz l) cn),(12,vu),(13,vs),(86,.slice A (Alz l) c),(87,Bb ((Alz l:Y):H)),(88,Bb i)],wq,Alz l-i)) (0,([]),v3,(.slice Aa 0 0),w3) ?_ ?_
      .exact⟨BC _,hpl,Z,fun j h=>absurd h (Uj _),by rw[List.append_nil];exact Bn.l b7 x2.size,Bn.nil _ _ _ _,gn,x3⟩
      .rintro⟨i,g,vu,vs,wq⟩⟨hi,W,K,en,c9,b4,bc,af⟩;refine(O 5)<|Zi (fun d=>?_) fun d=>?_
       .obtain⟨b,o,rfl,_,G⟩:=(hs.a af).flat (l:=l) (i:=i) (c:=2) (fun _=>rfl) Bc d;have a0:l.take (i+1)=l.take i++[l[i]]:=(CX d).symm;have a8:=bj _ (BL d);have dv:=bm _ (BL d);rw[Abf d]at W;have g0:(l.drop i).map Er=Er l[i]::(l.drop (i+1)).map Er:=by rw[DD d,Cm]
        have ba:∀p:Xt,30<=p.1->p.1+p.2<=4096->p.2=Ca (l[Alz g]'X)->Uq l (g++[p]):=fun p q1 q2 q3=>en.snoc X q1 q2 q3;have da:=fun p=>zJ (l:=l) (ps:=g) X p;have a7:=lx (l:=l) (ps:=g) X;rw[g0]at bc;have e0:l[Alz g]'X=l[i]:=by simp only[K]
        simp only[e0]at da ba;generalize l[i]=x at G a0 a8 dv W bc da ba;have ez:=KD dv;have cm:=nW x X X;rw[kC dv]at cm;simp only at cm;refine(O 7∘Zv (Dj x.cells G)∘Zn) ?_;rintro xb w4 ch bs ai;refine(O 1∘Zs bs (hlt:=Bq _)) ?_;rintro w5 S bi;refine(O 4) ?_;replace S:Bk w5 xb 64 x.cells:=S;have x5:Be wq w5:=Bp ai bi ai.size (fun k hk=>by simp at hk;omega);have xw:=af.trans x5;refine(O 3∘Zc (cm w5 (hG.a xw))) ?_;rintro _ w6⟨rfl,P⟩;refine(O 12∘Ci 102∘O 18) ?_;have dg:=(bc.a x5).a P;have x6:=xw.trans P;refine(Zt dg (hlt:=by(simp only[Bx,Vo,CF,a7];omega))) ?_;rintro w7 bf dn;refine(O 2) ?_;obtain⟨R,hR⟩:∃R,R=(l.drop (i+1)).map Er:=⟨_,Z⟩;rw[<-hR]at bf;have b0:i*6+3=0+i*6+1+2:=X;have b1:i*6+2=0+i*6+1+1:=X
        have cg:∀z,(CR (EJ l g++DJ x (z,Ca x)::R)++rest)[0+i*6+1+2]? =J (Bb (Ca x)):=fun z=>by
         have:=ZU (EJ l g) R (DJ x (z,Ca x)) rest 3 _ Z;rwa[a7,K,b0]at this
        have dp:∀z,(CR (EJ l g++DJ x (z,Ca x)::R)++rest)[0+i*6+1+1]? =J (Bb z):=fun z=>by
         have:=ZU (EJ l g) R (DJ x (z,Ca x)) rest 2 _ Z;rwa[a7,K,b1]at this
        replace bf:Bk w7 nb 116 (CR (EJ l g++DJ x (0,Ca x)::R)++rest):=by
         have e:=ZV (EJ l g) R (Er x) rest 3 Bc (Bb (Ca x)) (DJ x (0,Ca x)) Z;rw[a7,K,b0]at e;rw[<-e];exact bf
        have x7:Be w w7:=Bp x6 dn x6.size Bv;obtain⟨Aq,cq,rfl,_,_⟩:=c9.slice
        have bb:=Bn.j ((c9.a x5).a P) dn fun k hk=>by
         obtain⟨_,l',I⟩:=((c9.a x5).a P).K k hk;simpa using I.ne dg Bc
        have cd:=Bn.j ((b4.a x5).a P) dn fun k hk=>by
         obtain⟨_,l',I⟩:=((b4.a x5).a P).K k hk;simpa using I.ne dg Bc
        have cf:=fun w C hs=>gZ (E0++g) Bf V.D.cap (Ca x) Aq cq C w hs;rw[Bx,K]at cf
        have ef:∀w8,Be w7 w8->Sl w8 w8.heap.size Aq (Ei (E0++g)):=fun w8 L=>by
         obtain⟨_,_,e,_,sl⟩:=(bb.a L).slice;grind
        obtain⟨f,hf⟩:∃f,f=Ey (E0++g) V.D.cap (Ca x):=⟨_,Z⟩;rw[<-hf]at cf W;have h1:0<=Ca x/\Ca x<=100000:=by unfold Ca;omega
        refine PR (N:=20) (fun w'=>Be w w'/\∃z:H,Bk w' nb 116 (CR (EJ l g++DJ x (z,Ca x)::R)++rest)) Bi Z ?_;have r:=(⟨x7.trans (Be.drew w7),0,bf.drew⟩:Be w w7.drew/\∃z:H,Bk w7.drew nb 116 (CR (EJ l g++DJ x (z,Ca x)::R)++rest));refine GW.val 0 Z Bi Bi Bi Z Z r (fun w' y=>EX.move Z) ?_;refine GW.val 1 Z Bi Bi Bi Z Z r (fun w' y=>EX.move Z) ?_;refine GW.val 2 Z Bi Bi Bi Z Z r (fun w' y=>EX.move Z) ?_;refine GW.val 3 Z Bi Bi Bi Z Z r (fun w' y=>DU Z) ?_;refine GW.val 4 Z Bi Bi Bi Z Z r (fun w' y=>Dw (off:=0) iO Z Z Wa Z Z) ?_;refine GW.val 5 Z Bi Bi Bi Z Z r (fun w' y=>Dw (off:=0) nn Z Z bO Z Z) ?_;refine GW.val 6 Z Bi Bi Bi Z Z r (fun w' y=>CV mt Z Z ((hu.bk.a y.1).I Z)) ?_;refine GW.val 8 Z Bi Bi Bi Z Z r (fun w' y=>EX.move Z) ?_;refine GW.val 9 Z Bi Bi Bi Z Z r (fun w' y=>DU Z) ?_;refine GW.val 10 Z Bi Bi Bi Z Z r (fun w' y=>Dw (off:=2) iM Z Z BZ Z Z) ?_;refine GW.val 11 Z Bi Bi Bi Z Z r (fun w' y=>CV io Z Z (Exists.elim y.2 fun z h=>h.I (cg z))) ?_;refine GW.call 7 Z Bi Z Z Z (HQ (h.a r.1).E ho.E) ?_;rintro _ _⟨rfl,rfl⟩;refine⟨r,fun r=>?_⟩;refine(Yc 12 (cf _ _ (ef _ (Be.drew w7)))) ?_;rintro _ w8⟨rfl,L⟩;refine⟨⟨r.1.trans L,r.2.imp fun _ h=>h.a L⟩,fun r=>?_⟩;refine(Gv [13,14,15,16,17]) ?_;have df:=bf.drew.a L;refine(Yt 18 df (hlt:=by(simp only[Bx,Vo,CF,a7];omega))) ?_;rintro w9 gl dk;refine⟨⟨Bp r.1 dk r.1.size Bv,f.1,by(have e:=ZV (EJ l g) R (DJ x (0,Ca x)) rest 2 Bc (Bb f.1) (DJ x (f.1,Ca x)) Z;grind)⟩,fun r=>?_⟩;refine(Gv [19]∘Yd∘O 6) ?_
        have er:Bk w9 nb 116 (CR (EJ l g++DJ x (f.1,Ca x)::R)++rest):=by
         have e:=ZV (EJ l g) R (DJ x (0,Ca x)) rest 2 Bc (Bb f.1) (DJ x (f.1,Ca x)) Z;rw[a7,K,b1]at e;rw[<-e];exact gl
        have fc:=r.1
        have ao:=Bn.j ((bb.a (Be.drew w7)).a L) dk fun k hk=>by
         obtain⟨_,l',I⟩:=((bb.a (Be.drew w7)).a L).K k hk;simpa using I.ne df Bc
        have eo:=Bn.j ((cd.a (Be.drew w7)).a L) dk fun k hk=>by
         obtain⟨_,l',I⟩:=((cd.a (Be.drew w7)).a L).K k hk;simpa using I.ne df Bc
        refine Zi (fun f6=>?_) fun f6=>?_
        .have hz:f.2≠0:=X;rw[Aj hz]at W;rw[W];simp only;rw[Aj hz];refine(O 5∘Bu) ?_;exact⟨Z,h.a r.1,Tm.Akj r.1 _ _⟩
        .have hz:f.2=0:=X;rw[Ag X]at W
         obtain⟨f1,f2,f3,f4⟩:1<=Ca x/\30<=f.1/\f.1+Ca x<=4096/\True:=by
          obtain⟨q1,q2,q3⟩:=YK (hf▸hz);rw[<-hf]at q3;have:=q3.1.1;have:=q3.1.2.1;simp;omega
         refine(O 2∘Yr 13 (fun w'=>Be w w'/\Bk w' nb 116 (CR (EJ l g++DJ x (f.1,Ca x)::R)++rest)) (Il (r.1.trans (Be.drew w9)) er.drew)) fun r=>(Gv [0,1,2,3]∘Yw 4 (he:=by exact fun _ y=>Bo y.2 (hi:=dp f.1))∘Gv [5,6,7]∘Yw 8 (he:=by exact fun _ y=>Bo y.2 (hi:=cg f.1))∘Gv [9]) ?_;refine GB 10 1 ([xcells (f.1,Ca x)]) Z Bi Z Z iv LK Z Bc Z Z Z (by repeat' (first|exact Lh _|refine Lg.2 ⟨by first|rfl|assumption,?_⟩)) Bc ?_;rintro eb hy gt cl a9;refine⟨⟨r.1.trans a9,r.2.a a9⟩,fun r=>?_⟩
         have fu:∀k,(Value.slice Aq (Alz E0+i) cq).ownBlock=J k->k≠nb:=fun k hk=>by
          obtain⟨_,l',I⟩:=ao.K k hk;exact I.ne er Bc
         have a3:=(Be.drew w9).trans a9;refine GW.append 11 0 Z Bi Z Z iv LK Z Bc Z Z ((ao.a a3).l (BC _)) (Src.Akm (m:=1) iv (Sl.Akk cl cl.lt) Z (Wm [(f.1,Ca x)]) Bc) CB X (BC _) ?_;rintro d6 fi cv bl ec;refine⟨⟨r.1.grown bl fun k hk=>(ao.lt k hk).1,r.2.grown bl fun e=>fu nb e.symm Z⟩,fun r=>?_⟩;refine(Gv [12]∘Yd∘O 3) ?_;have a1:=Bn.apart (eo.a a3) (ao.a a3) Bc bl;refine(Hk r.1 a1) ?_;rintro _ fl fd ct fb cj hg;refine(O 7) ?_
         have c8:Bn fi w.heap.size 121 2 d6 (Alz E0+(i+1)) (Ei (E0++(g++[(f.1,Ca x)]))):=by
          rw[<-Cq,PG,show Alz E0+(i+1)=Alz E0+i+1 from Z];refine Bn.base (by simpa using cv) fun k hk=>?_;rcases ec with e|e
          .exact(ao.lt k Bf).1
          .rw[e]at hk;injection hk with hk;have:=fc.size;have:=a3.size;omega
         have c3:=Bn.apart c8 a1 Bc cj
         have g5:=r.2.grown cj fun e=>by
          obtain⟨_,l',I⟩:=a1.K nb e.symm;exact I.ne r.2 Bc Z
         refine Lb ((i+1),(g++[(f.1,Ca x)]),d6,fl,fd) ?_;exact⟨d,W,by simp;omega,ba _ f2 f3 Z,c3,by rw[a0,DW,LV,bU];exact ct,by rw[da];simpa[hR]using g5,fb⟩
       .obtain rfl:i=Alz l:=X;rw[Abg]at W;rw[W];simp only;rw[Ag (fun h=>h Z)];have e6:putF V l g=if(CN V ((Alz l+1:Y):H)).2≠0 then CN V ((Alz l+1:Y):H)else Ni (CN V ((Alz l+1:Y):H)).1 (writeX (CN V ((Alz l+1:Y):H)).1.D (g.zip l)) (HL DJ l g):=Ag b6;rw[e6];clear e6;rw[IS,Em,List.append_nil]at bc;rw[DY]at b4;have gq:Alz l≠0:=fun q=>b6 (List.length_eq_zero_iff.1 q);have cr:=aQ (hu.a af) ho X (DE.a hG.mlen af) ((Alz l+1:Y):H) X;obtain⟨al,gf⟩:=aP ho ((Alz l+1:Y):H);have eh:=al.sm;have ek:=al.E;generalize CN V ((Alz l+1:Y):H)=R at cr al gf eh ek;refine(O 8∘Ci 154∘O 11∘Zc cr) ?_;rintro _ wd⟨rfl,hd,td⟩;refine(O 7) ?_;have cp:Tm w wd B vty:=(Tm.Akj af _ _).trans td;have bd:=td.bk bc Bc;have cb:=td.y b4 Bc;refine Zi (fun f0=>?_) fun f0=>?_
        .rw[Aj (show R.2≠0 by omega)];refine(O 5∘Bu) ?_;exact⟨Z,hd.at_,cp⟩
        .rw[Ag (show ¬R.2≠0 by omega)];obtain⟨As,cs,rfl,_,_⟩:=cb.slice;refine(O 9)<|Lo (fun((i,D,wr):Y×Dv×Ad)=>(i<=Alz l/\writeX R.1.D (g.zip l)=writeX D ((g.zip l).drop i)/\D.q/\Sm D (k+6+i*4096)/\VAu wr B vb db { R.1 with D:=D } (.slice Au (Alz V.i) cu)/\Tm wd wr B vty,[(0,.pointer (J ⟨vb,0,Aa⟩)),(8,.slice (J ⟨nb,0,Aa⟩) (Alz l) cn),(165,.slice As (Alz l) cs),(166,Bb ((Alz l:Y):H)),(167,Bb i)],wr,Alz l-i)) (0,R.1.D,wd) ?_ ?_
         .exact⟨BC _,Z,ek,eh,hd,Tm.refl _ _ _⟩
         .rintro⟨i,D,wr⟩⟨hi,a6,e9,e8,hv,tr⟩;refine(O 5)<|Zi (fun d=>?_) fun d=>?_
          .rw[Ajt K d]at a6;obtain⟨p1,p2,p3⟩:=en i X d;have f7:=bm _ (BL d);have g2:=lw K d rest 2 (v:=Bb (g[i]'X).1) Z;have g3:=lw K d rest 3 (v:=Bb (g[i]'X).2) Z;obtain⟨_,_,e,_,fr⟩:=(tr.y cb Bc).slice;cases e;obtain⟨sb,so,rfl,_,d1⟩:=Wf fr (i:=i) Bf;rw[Og]at d1;have ez:=KD f7;generalize g[i]'X=p at a6 p1 p2 p3 g2 g3;generalize l[i]=x at a6 p3 d1 ez;obtain⟨a,ha⟩:∃a:Y,p.1=(a:H):=⟨p.1.toNat,X⟩;rw[ha]at a6 p1 p2 g2;rw[p3]at p2 g3;unfold Ca at p2 g3;obtain⟨n,hn⟩:∃n,n=Alz (BU x)/512:=⟨_,Z⟩;rw[<-hn]at p2 g3;have b0:i*6+3=0+i*6+1+2:=X;have b1:i*6+2=0+i*6+1+1:=X;rw[b0]at g3;rw[b1]at g2;have gg:=tr.bk bd Bc;refine(O 7∘Zv (BR d1)∘O 10∘Zv (Bo gg (hi:=g3))∘O 3)<|Lo (fun((j,E,w2):Y×Dv×Ad)=>(j<=n/\writeX R.1.D (g.zip l)=bK (writes E (a+j) ((EG (BU x)).drop j)) ((g.zip l).drop (i+1))/\E.q/\Sm E (k+6+i*4096+j)/\VAu w2 B vb db { R.1 with D:=E } (.slice Au (Alz V.i) cu)/\Tm wd w2 B vty,[(0,.pointer (J ⟨vb,0,Aa⟩)),(8,.slice (J ⟨nb,0,Aa⟩) (Alz l) cn),(165,.slice (J ⟨sb,so,Aa⟩) (Alz l) cs),(166,Bb ((Alz l:Y):H)),(167,Bb i),(20,Bb i),(21,str ((BU x))),(177,Bb n),(178,Bb j)],w2,n-j)) (0,D,wr) ?_ ?_
           .grind
           .rintro⟨j,E,w2⟩⟨hj,aj,d5,d4,b2,te⟩;refine(O 5)<|Zi (fun gs=>?_) fun gs=>?_
            .rw[Ajw X]at aj;have gk:=te.bk bd Bc;have bq:=b2.bk;obtain⟨s,hs5⟩:∃s,s=((BU x).drop (j*512)).take 512:=⟨_,Z⟩;have hh:Alz s<=512:=by rw[hs5,BW];omega
             have cw:=fun w1 hd=>PE (w:=w1) (B:=B) (b:=db) hd d5 (d4.small X) ((a+j:Y):H) X X s X;have c4:=NR d5 ((a+j:Y):H) s;have c5:=PF d4 ((a+j:Y):H) s;rw[<-hs5]at aj;generalize E.write ((a+j:Y):H) s=q at aj cw c4 c5;have ge:s=((BU x).drop (j*512)).take ((j+1)*512-j*512):=by rw[hs5,show(j+1)*512-j*512=512 by omega]
             rw[ge]at cw;have h2:(j+1)*512<=Alz (BU x):=X;refine(O 9∘Yr 22 (fun w'=>Bk w' vb 82 (HH db { R.1 with D:=E } (.slice Au (Alz V.i) cu))/\Bk w' nb 116 (CR (EJ l g)++rest)) (Il bq.drew gk.drew)) fun r=>(Gv [0,1,2,3,4,5,6,7,8,9]∘Yw 10 (he:=by exact fun _ y=>Bo y.2 (hi:=g2))∘Gv [11,12,13,14,15,16,17,18]∘Yw 19 (he:=by exact fun _ _=>Oa eT Z Z Z X)∘Yc 20 (cw _ (b2.a (Be.drew w2)).E)) ?_;rintro _ w3⟨rfl,g4,t3⟩;refine⟨⟨t3.bk r.1 Bc,t3.bk r.2 Bc⟩,fun r=>?_⟩;refine(Gv [21]∘Yd∘O 5) ?_;have gd:VAu w3 B vb db { R.1 with D:=q.1 } (.slice Au (Alz V.i) cu):=(b2.a (Be.drew w2)).dev_tm g4 t3;have fn:Tm wd w3 B vty:=te.trans ((Tm.Akj (Be.drew w2) _ _).trans (Tm.vty t3));refine Zi (fun d0=>?_) fun d0=>?_
             .have Q:q.2≠0:=X;rw[Ag Q]at aj;rw[aj,show bK q ((g.zip l).drop (i+1))=q from Aj Q,Ur Q];refine(O 6∘Zc (OI gd q.2)) ?_;rintro _ w4⟨rfl,ea,t4⟩;refine(O 2∘Bu) ?_;rw[show(({ R.1 with D:=q.1 }:Vl).N||decide (q.2≠0))=Af by rw[AM Q,Bool.or_true]]at ea;exact⟨Z,ea.at_,cp.trans (fn.trans t4)⟩
             .rw[Aj (show q.2=0 by omega)]at aj;refine(O 6)<|Lb ((j+1),q.1,w3) ?_;grind
            .obtain rfl:j=n:=X;rw[Of (by rw[Mi];omega),writes]at aj;refine(O 6)<|Lb ((i+1),E,w2) ?_;exact⟨X,aj,d5,d4.l X,b2,te⟩
          .obtain rfl:i=Alz l:=X;rw[Of Bf,writeX]at a6;rw[a6,Xo];have h4:=hv.bk;have fa:=Tp hv.E e9 (e8.small X);have c6:=bB e9;have c7:=bC e8;generalize D.w=s at fa c6 c7;refine(O 9∘Zc fa) ?_;rintro _ we⟨rfl,g1,te⟩;refine(O 7) ?_;have he:VAu we B vb db { R.1 with D:=s.1 } (.slice Au (Alz V.i) cu):=hv.dev_tm g1 te;have co:Tm w we B vty:=cp.trans (tr.trans (Tm.vty te));refine Zi (fun d0=>?_) fun d0=>?_
           .have Q:s.2≠0:=X;rw[Aj Q];refine(O 6∘Zc (OI he s.2)) ?_;rintro _ wg⟨rfl,d9,tg⟩;refine(O 2∘Bu) ?_;rw[show(({ R.1 with D:=s.1 }:Vl).N||decide (s.2≠0))=Af by rw[AM Q,Bool.or_true]]at d9;exact⟨Z,d9.at_,co.trans tg⟩
           .rw[Ag (show ¬s.2≠0 by omega)];have bq:=te.bk (tr.bk bd Bc) Bc;have f9:VOk { R.1 with D:=s.1 } (k+6+Alz l*4096+1):=⟨c6,c7,al.gen,al.next,al.ok,al.len,al.g⟩;have f5:Alz (HL DJ l g)=Alz l:=by rw[List.length_zipWith];omega
            rw[zI K]at bq
            have b8:∀w',Bk w' nb 116 (CR (HL DJ l g)++rest)->Sl w' (nb+1) (J ⟨nb,0,Aa⟩) (CR (HL DJ l g)):=fun w' hb=>by
             have:=(Sl.Akk hb (PZ _)).pre (Alz (CR (HL DJ l g)));grind
            have ep:=fun n hn=>Akg (ps:=g) bj (n:=n) hn;have cc:=XT he.at_ f9 X (LC hG.mlen co ey) ey (HL DJ l g) X ep (J ⟨nb,0,Aa⟩) cn (nb+1) (b8 _ bq) (fun w' t=>b8 _ (t.bk bq Bc));rw[f5]at cc;refine(O 7∘Zc cc) ?_;rintro _ wh⟨rfl,gb,th⟩;refine(O 2∘Bu) ?_;exact⟨Z,gb,co.trans th⟩
end
section
variable{w w':Ad}{B vb db:Y}{V V':Vl}{k:Y}
def Xn(h:VAt w B vb db V)(j:VOk V k)(hk:k<=700000000)(m:Env w)(e:0<B)(x:En)(l:Alz x.g<=1000000/\Alz x.data<=140737488355328):
 Bm eD 25 [.pointer (J ⟨vb,0,Aa⟩),str x.g,str x.data] w fun v w'=>v=Bb (((EK V [x]).2:Y):H)/\VAt w' B vb db (EK V [x]).1/\Tm w w' B vty:=by
 refine Bw func25 Z ntmps25 Bi Z ?_;refine(O 10) ?_;refine Mc 1 ([x.cells]) Z Z ip Eu Z Bc Z Z Z (by repeat' (first|exact Lh _|refine Lg.2 ⟨by rfl,?_⟩)) Bc ?_;rintro nb g f d a;replace d:Bk g nb 64 (Df [x]):=d;refine(Zc (aC (h.a a) j hk (m.a a) e [x] Bh (J ⟨nb,0,Aa⟩) 1 (nb+1) (Sl.Akk d (PZ _)) (fun y p=>by grind))) ?_;rintro _ o⟨rfl,n,i⟩;refine(O 2∘Bu) ?_;exact⟨Z,n,(Tm.Akj a _ _).trans i⟩
end
abbrev Ol:={ x:M// -1000000<=x.start/\x.start<=1000000 }
instance:Inhabited Ol:=⟨⟨⟨[],0,0,0,0⟩,Bc,Bc⟩⟩
def Oz(x y:Ol):H:=x.1.start-y.1.start
def swoT:Go.Sort.SWO (fun a b:Ol=>decide (Oz a b<0)) where
 irrefl x:=by
  rw[decide_eq_false_iff_not];unfold Oz;omega
 trans x y z h1 h2:=by
  rw[decide_eq_true_eq]at*;unfold Oz at*;omega
 ntrans x y z h1 h2:=by
  rw[decide_eq_false_iff_not]at*;unfold Oz at*;omega
def Aaf(x y:Ol)(W:Ad):Bm eD 88 [.agg (x.1.cells).toArray,.agg (y.1.cells).toArray] W fun r W'=>r=Bb (Oz x y)/\Gr W W':=by
 obtain⟨x,m,j⟩:=x;obtain⟨y,i,h⟩:=y;refine Bw Bh Z ntmps88 (by rfl) Z ?_;refine(O 2∘Zv (by exact EX.box (l:=x.cells) Z Z)) ?_;have d:=Bk.new W 60 x.cells;have g:=Gr.alloc W (.cells x.cells.toArray 60);generalize o:W.alloc _=w1 at d g;refine(Zv (by exact EX.box (l:=y.cells) Z Z)∘O 5) ?_;have e:=Bk.new w1 60 y.cells;have f:=Gr.alloc w1 (.cells y.cells.toArray 60);have a:=d.a f.1;generalize n:w1.alloc _=w2 at e f a;have p:=g.trans f;refine(O 6∘Bu) ?_;exact⟨Z,p⟩
section
variable{w w':Ad}{B vb db:Y}{V V':Vl}{k:Y}
structure Ordd(l l':Ae M):Prop where
 perm:l'.Perm l
 sorted:l'.Pairwise fun x y=>x.start<=y.start
def Aah(h:VAt w B vb db V)(hm:Alz V.i<=1000000)(p:∀m∈V.i,-1000000<=m.start/\m.start<=1000000):
 Bm eD 56 [.pointer (J ⟨vb,0,Aa⟩)] w fun v w'=>(∃L,Ordd V.i L/\Bn w' w.heap.size 60 5 v (Alz L) (Dz L))/\Be w w':=by
 obtain⟨L,G⟩:∃L:Ae Ol,L.map (·.1)=V.i:=⟨V.i.attachWith _ p,Bh⟩;have t:Alz L=Alz V.i:=by have:=AF DQ G;simpa using this
 have o:∀L:Ae Ol,L.flatMap _=Dz (L.map (·.1)):=fun L=>by
  induction L with
  |nil=>rfl
  |cons x L ih=>rw[Gk,Cm,ih];rfl
 refine Bw Bh Z ntmps56 Bi Z ?_;refine(O 7∘Zc (SI h hm)) ?_;rintro C A⟨D,l⟩;refine(O 5) ?_;have a:Bn A w.heap.size 60 5 C (Alz L) (L.flatMap (fun x=>x.1.cells)):=by rwa[o,G,t]
 have N:=VQ nL (f:=79) Z func79 Bi (e:=60) Z iM Z Tt Bh (cells:=fun x:Ol=>x.1.cells) (fun _=>rfl) (fun x v E=>by simp[M.cells]at E;rcases E with rfl|rfl|rfl|rfl|rfl<;>rfl) Oz swoT func88 Bi w.heap.size L X C A a (fun W x y _=>Aaf x y W);refine(Zc N) ?_;rintro _ P⟨rfl,L',g,d,q,n⟩;refine(O 6∘Bu) ?_;refine⟨⟨L'.map (·.1),⟨?_,?_⟩,?_⟩,Bp l n l.size (fun k Q=>(a.lt k Bf).1)⟩
 .grind
 .rw[LW,Ir];intro i j K I r;have:=d i j K I r;unfold Oz at this;omega
 .rw[Dl,g.length_eq,<-o];omega
def sY{e:Ad}{u:Ah}{n:Y}(t:n<=1000000)(l:Ae Xt)(m:M)(hx:Be e w)(h:Bn w e.heap.size 121 2 u n (Ei l)):
 Bm eD 58 [u,.agg m.cells.toArray] w fun v w'=>Bn w' e.heap.size 121 2 v (n+1) (Ei (l++[(m.start,m.p)]))/\Be e w':=by
 refine Bw Bh Z ntmps58 Bi Z ?_;refine(O 2) ?_;refine Dq Z Z Z ?_;rintro r p g j d;refine(O 10∘Kx (hx.trans d) (h.a d)) ?_;rintro _ q o a f i;refine(O 2∘Bu) ?_;rw[PG];exact⟨a,f⟩
def xn(l:Ae M)(hl:Alz l<=1000000)(A:Av AB)(c C:Y)(w:Ad)(K:Sl w C A (Dz l)):
 Bm eD 57 [.slice A (Alz l) c,.slice Aa 0 0,.func (.func 58) #[] #[]] w fun v w'=>Bn w' w.heap.size 121 2 v (Alz l) (Ei (BY l))/\Be w w':=by
 refine Bw Bh Z ntmps57 (by rfl) Z ?_;refine(O 12)<|Lo (fun((i,h,wr):Y×Ah×Ad)=>(i<=Alz l/\Bn wr w.heap.size 121 2 h i (Ei (BY (l.take i)))/\Be w wr,[(1,h),(2,.func (.func 58) #[] #[]),(9,.slice A (Alz l) c),(10,Bb ((Alz l:Y):H)),(11,Bb i)],wr,Alz l-i)) (0,(.slice Aa 0 0),w) ?_ ?_
 .exact⟨X,Bn.nil _ _ _ _,Be.refl _⟩
 .rintro⟨i,h,wr⟩⟨Q,g,y⟩;refine(O 5)<|Zi (fun d=>?_) fun d=>?_
  .obtain⟨b,o,rfl,_,a⟩:=(K.a y).flat (l:=l) (i:=i) (c:=5) (fun _=>rfl) Bh d;have f:l.take (i+1)=l.take i++[l[i]]:=Bh;generalize l[i]=m at a f;refine(O 6∘Zv (Dj _ a)∘Zn) ?_;rintro L P D r e;refine(Zs r (hlt:=Bq _)) ?_;rintro N q p;refine(O 4) ?_;have t:Be _ _:=Bp e p e.size Bf;refine(Zv (Dj _ (fun j u I=>by rw[EE];exact q.I I))∘Ea (sY X _ m (y.trans t) (g.a t))) ?_;rintro G E⟨x,n⟩;refine(O 7)<|Lb ((i+1),G,E) ?_;refine⟨d,?_,n⟩;rw[f,show BY _=BY (l.take i)++[(m.start,m.p)] by simp[BY]];omega
  .refine(O 6∘Bu) ?_;grind
end
noncomputable def Iu(V:Vl)(a:H)(m:M):Vl×Y:=
 if m.start-a<m.p/\m.start≠a then(if(Ey (BY V.i) V.D.cap m.p).2≠0 then(V,(Ey (BY V.i) V.D.cap m.p).2)else Gu V m.g (Ey (BY V.i) V.D.cap m.p).1)else(V,0)
noncomputable def OO(R:Vl×Y)(a:H)(m:M):Vl×Y:=if R.2≠0 then R else if m.start≠a then Gu R.1 m.g a else(R.1,0)
def Zk(V:Vl)(a:H)(m:M):OO (V,0) a m=if m.start≠a then Gu V m.g a else(V,0):=Ag fun h=>h Z
def Zj{R:Vl×Y}(h:R.2≠0)(a:H)(m:M):OO R a m=R:=Aj h
noncomputable def Lr:Vl->H->Ae M->Vl×Y
 |V,_,[]=>MP V
 |V,a,m::r=>if(OO (Iu V a m) a m).2≠0 then OO (Iu V a m) a m else Lr (OO (Iu V a m) a m).1 (a+m.p) r
noncomputable def Ls(V:Vl)(L:Ae M):Vl×Y:=if(EK V []).2≠0 then(V,(EK V []).2)else Lr V 30 L
def mA(V:Vl):(EK V []).1=V:=by
 unfold EK;split
 .rfl
 .show(if FC []≠0 then _ else _:Vl×Y).1=V;rw[Ag (fun h=>h Z)];unfold NC;rw[Ag (fun h=>h WT)];unfold LF;split
  .rfl
  .rfl
section
variable{w w':Ad}{B vb db:Y}{V V':Vl}{k:Y}
def fN(P:Vl->Y->Prop)(hP:∀V k,P V k->VOk V k)(hM:∀V k p tt,k<=700000000->P V k->P (Gu V p tt).1 (k+10000))(hm:∀V k k',P V k->k<=k'->P V k')
 (h:VAt w B vb db V) (ho:P V k) (hk:k<=600000000) (hG:Env w) (E:0<B) (bd:∀m∈V.i,0<=m.start/\m.start<=5000/\0<=m.p/\m.p<=5000/\Alz m.g<=1000000):
 Bm eD 27 [.pointer (J ⟨vb,0,Aa⟩)] w fun v w'=>∃L,Ordd V.i L/\v=Bb (((Ls V L).2:Y):H)/\VAt w' B vb db (Ls V L).1/\Tm w w' B vty:=by
 have a2:=hP _ _ ho;have a6:=a2.len;have cp:=aC h a2 X hG E [] Bh Aa 0 0 (.inl Z) (fun x hx=>by grind);rw[mA]at cp;generalize bs:(EK V []).2=pe at cp;refine Bw func27 Z ntmps27 Bi Z ?_;refine(O 8∘Zc cp) ?_;rintro _ w1⟨rfl,h1,t1⟩;refine(O 7)<|Zi (fun bf=>?_) fun bf=>?_
 .refine(O 5∘Bu) ?_
  have e:∀L,Ls V L=(V,pe):=fun L=>by
   unfold Ls;grind
  exact⟨_,⟨TW V.i (fun x y=>decide (x.start<=y.start)),by
   have:=dJ (le:=fun x y:M=>decide (x.start<=y.start)) (fun a b c h1 h2=>by grind) (fun a b=>by grind) V.i;grind⟩,by rw[e],Bf,t1⟩
 .have e:∀L,Ls V L=Lr V 30 L:=fun L=>by
   unfold Ls;grind
  refine(O 9∘Zc (Aah h1 X (fun m hm=>by grind))) ?_;rintro v2 w2⟨⟨L,hO,W⟩,a0⟩;obtain⟨A,c,rfl,_,bq⟩:=W.slice;refine(O 4) ?_;have b4:Alz L<=1000:=by rw[hO.perm.length_eq];exact a6
  have a3:∀m∈L,0<=m.start/\m.start<=5000/\0<=m.p/\m.p<=5000/\Alz m.g<=1000000:=fun m hm=>bd m (hO.perm.mem_iff.1 hm);have t2:Tm w w2 B vty:=t1.trans (Tm.Akj a0 _ _);refine Lo (fun((i,g,a,wr):Y×Vl×H×Ad)=>(i<=Alz L/\Lr V 30 L=Lr g a (L.drop i)/\P g (k+20000*i)/\30<=a/\a<=30+5000*i/\VAt wr B vb db g/\Tm w2 wr B vty,[(0,.pointer (J ⟨vb,0,Aa⟩)),(4,Bb (a:H)),(18,.slice A (Alz L) c),(19,Bb ((Alz L:Y):H)),(20,Bb i)],wr,Alz L-i)) (0,V,30,w2) ?_ ?_
  .exact⟨BC _,Z,ho,Bc,Bc,h1.a a0,Tm.refl _ _ _⟩
  .rintro⟨i,g,a,wr⟩⟨hi,d,Q,b2,b1,hv,tr⟩;have tw:=t2.trans tr;refine(O 5)<|Zi (fun j=>?_) fun j=>?_
   .obtain⟨_,_,eA,_,a7⟩:=(tr.y W Bc).slice;cases eA;obtain⟨b,o,rfl,_,G⟩:=a7.flat (l:=L) (i:=i) (c:=5) (fun _=>rfl) Bc j;rw[DD j,Lr]at d;obtain⟨q1,q2,q3,q4,q5⟩:=a3 _ (BL j);generalize L[i]=m at G d q1 q2 q3 q4 q5;refine(O 6∘Zv (Dj m.cells G)∘Zn) ?_;rintro xb w4 bm bj ab;refine(Zs bj (hlt:=Bq _)) ?_;rintro w5 I bh;refine(O 3) ?_;replace I:Bk w5 xb 60 m.cells:=I;have x5:Be wr w5:=Bp ab bh ab.size (fun k hk=>by grind);have t:=hv.a x5;have t5:Tm w w5 B vty:=tw.trans (Tm.Akj x5 _ _);refine Ld (fun((U1,wz):Vl×Ad)=>(Iu g a m=(U1,0)/\P U1 (k+20000*i+10000)/\VAt wz B vb db U1/\Tm w5 wz B vty,[(0,.pointer (J ⟨vb,0,Aa⟩)),(4,Bb (a:H)),(6,.pointer (J ⟨xb,0,Aa⟩)),(18,.slice (J ⟨b,o,Aa⟩) (Alz L) c),(19,Bb ((Alz L:Y):H)),(20,Bb i)],wz)) ?_ ?_
    .refine(O 9)<|Zd 31 (fun c1=>?_) fun c1=>?_
     .refine(O 6)<|Zi (fun c2=>?_) fun c2=>?_
      .have S:Iu g a m=if(Ey (BY g.i) g.D.cap m.p).2≠0 then(g,(Ey (BY g.i) g.D.cap m.p).2)else Gu g m.g (Ey (BY g.i) g.D.cap m.p).1:=Aj ⟨c1,c2⟩;have n:=hP _ _ Q;have b3:=n.len;have cf:=fun w C Aq cq hs=>gZ (BY g.i) (by rw[Mq];omega) g.D.cap m.p Aq cq C w hs;rw[Mq]at cf;have hf:=@YK (BY g.i) g.D.cap m.p;have bn:=n.E.cap;generalize Ey (BY g.i) g.D.cap m.p=f at S cf hf;refine(O 3∘Zc (SI t X)) ?_;rintro v6 w6⟨ao,bb⟩;obtain⟨A6,c6,rfl,_,a5⟩:=ao.slice;refine(Zc (xn g.i X A6 c6 _ w6 a5)) ?_;rintro v7 w7⟨al,ba⟩;obtain⟨A7,c7,rfl,_,a4⟩:=al.slice;refine(O 3) ?_;have ai:=bb.trans ba;refine(Yr 11 (fun w'=>Be w7 w') (Be.drew w7)) fun hS=>(Gv [0,1,3]∘Yw 4 (he:=by exact fun _ bl=>Bo ((I.a ai).a bl))∘Yc 2 (Ajf ((t.a ai).a hS) n.E)) ?_;rintro _ _⟨rfl,rfl⟩;refine⟨hS,fun hS=>?_⟩;refine(Yc 5 (cf _ _ A7 c7 (a4.a hS))) ?_;rintro _ w8⟨rfl,a9⟩;refine⟨hS.trans a9,fun hS=>?_⟩;refine(Gv [6,7,8,9,10]∘Yd∘O 6) ?_;have af:=ai.trans hS;have T:Tm w5 w8 B vty:=Tm.Akj af _ _;have bc:=t.a af;have b0:=I.a af;refine Zi (fun a8=>?_) fun a8=>?_
       .have r:f.2≠0:=X;rw[Aj r]at S;rw[S,Zj (R:=(g,f.2)) r,Aj (show(g,f.2).2≠0 from r)]at d;refine(O 5∘Bu) ?_;exact⟨L,hO,Bf,Bf,t5.trans T⟩
       .have r:f.2=0:=X;rw[Ag (fun h=>h r)]at S;obtain⟨f1,f2,f3⟩:=hf r;have f4:=f3.1.1;have f5:=f3.1.2.1;have cm:=fun hG=>ZO bc n X hG E m.g X f.1 X X;have K:=hM _ _ m.g f.1 X Q;generalize Gu g m.g f.1=q at S cm K;refine(O 7∘Zc (cm (LC hG.mlen (t5.trans T) E))) ?_;rintro _ w9⟨rfl,h9,t9⟩;refine(O 7)<|Zi (fun aj=>?_) fun aj=>?_
        .have r:q.2≠0:=X;rw[S,Zj r,Aj r]at d;refine(O 5∘Bu) ?_;exact⟨L,hO,by rw[e,d],by rw[e,d];exact h9,t5.trans (T.trans t9)⟩
        .refine(O 1∘Lm (q.1,w9)) ?_;exact⟨Bf,K,h9,T.trans t9⟩
      .have S:Iu g a m=(g,0):=Ag fun h=>c2 h.2;refine(O 1∘Lm (g,w5)) ?_;exact⟨S,hm _ _ _ Q X,t,Tm.refl _ _ _⟩
     .have S:Iu g a m=(g,0):=Ag fun h=>c1 h.1;refine(O 8∘Lm (g,w5)) ?_;exact⟨S,hm _ _ _ Q X,t,Tm.refl _ _ _⟩
    .rintro⟨U1,wz⟩⟨has,N,a1,tz⟩;have n:=hP _ _ N;have bi:=tz.bk I Bc;rw[has,Zk]at d;refine(O 8)<|Zi (fun c3=>?_) fun c3=>?_
     .have cm:=fun hG=>ZO a1 n X hG E m.g X a X X;have K:=hM _ _ m.g a X N;rw[Aj c3]at d;generalize Gu U1 m.g a=q at d cm K;refine(O 6∘Zc (cm (LC hG.mlen (t5.trans tz) E))) ?_;rintro _ w9⟨rfl,h9,t9⟩;refine(O 7)<|Zi (fun aj=>?_) fun aj=>?_
      .have r:q.2≠0:=X;rw[Aj r]at d;refine(O 5∘Bu) ?_;exact⟨L,hO,by rw[e,d],by rw[e,d];exact h9,t5.trans (tz.trans t9)⟩
      .rw[Ag (show ¬q.2≠0 by omega)]at d;have bx:=t9.bk bi Bc;refine(O 13)<|Lb ((i+1),q.1,(a+m.p),w9) ?_;exact⟨j,d,hm _ _ _ K X,X,X,h9,tr.trans ((Tm.Akj x5 _ _).trans (tz.trans t9))⟩
     .rw[Ag c3]at d;simp only at d;rw[Ag (fun h=>h Z)]at d;refine(O 13)<|Lb ((i+1),U1,(a+m.p),wz) ?_;exact⟨j,d,hm _ _ _ N X,X,X,a1,tr.trans ((Tm.Akj x5 _ _).trans tz)⟩
   .obtain rfl:i=Alz L:=X;rw[IS,Lr]at d;refine(O 4∘Zc (pd hv (hP _ _ Q) X)) ?_;rintro _ w3⟨rfl,h3,t3⟩;refine(O 2∘Bu) ?_;exact⟨L,hO,by rw[e,d],Bf,t2.trans (tr.trans t3)⟩
end
def Qz(l:Ae En)(x:En):Df (l++[x])=Df l++x.cells:=Bh
def Qy(l:Ae En):∀u∈Df l,u.oneCell'=Af:=by
 intro u a;obtain⟨p,_,h⟩:=Oi.1 a;simp only[En.cells,List.mem_cons,List.not_mem_nil,or_false]at h;rcases h with rfl|rfl<;>rfl
def Sl.Akz{α:Type}{cells:α->Bl}{c:Y}{w:Ad}{B:Y}{A:Av AB}{l:Ae α}(h:Sl w B A (l.flatMap cells))(d:∀a,Alz (cells a)=c)(h0:0<c){i:Y}(hi:i<Alz l):
 ∃b o,A=J ⟨b,o,Aa⟩/\b<B/\∀w',Be w w'->∀j u,(cells l[i])[j]? =J u->w'.cell? ⟨b,o+i*c+j,Aa⟩=J u:=by
 obtain⟨b,o,rfl,g,_⟩:=h.flat d h0 hi;refine⟨b,o,Z,g,fun w' f=>?_⟩;obtain⟨_,_,e,_,k⟩:=(h.a f).flat d h0 hi;grind
structure MapS(w w':Ad)(mb rb ob:Y)(v:Ah):Prop where
 x:Be w w'
 m:Bk w' mb 33 [v]
 r:Bk w' rb 33 [.slice Aa 0 0]
 o:∃u,Bk w' ob 33 [u]
def MapS.a{w a b:Ad}{mb rb ob:Y}{v:Ah}(h:MapS w a mb rb ob v)(hx:Be a b):MapS w b mb rb ob v:=⟨h.x.trans hx,h.m.a hx,h.r.a hx,h.o.imp fun _ q=>q.a hx⟩
def MapS.drew{w a:Ad}{mb rb ob:Y}{v:Ah}(h:MapS w a mb rb ob v):MapS w a.drew mb rb ob v:=h.a (Be.drew a)
def MapS.grown{w a b:Ad}{l i j n:Y}{v u:Ah}{xs:Bl}(h:MapS w a l i j v)(y:Bn a w.heap.size 64 2 u n xs)(d:a.grownBy b (Pi u)):MapS w b l i j v:=by
 have f:∀k p,Bk a k 33 p->J k≠Pi u:=fun k p B e=>by
  obtain⟨_,C,g⟩:=y.K k e.symm;exact g.ne B Bh Z
 refine⟨h.x.grown d fun k A=>(y.lt k A).1,h.m.grown d (f _ _ h.m),h.r.grown d (f _ _ h.r),?_⟩;obtain⟨q,t⟩:=h.o;exact⟨q,t.grown d (f _ _ t)⟩
def MapS.put{w a b:Ad}{mb rb ob:Y}{v u:Ah}(h:MapS w a mb rb ob v)(hm:Mo a b [ob])(hb:Bk b ob 33 [u])(n1:ob≠mb)(n2:ob≠rb)(hz:w.heap.size<=ob):MapS w b mb rb ob v:=
 ⟨Bp h.x hm h.x.size (fun k hk=>by grind),h.m.j hm Bf,h.r.j hm Bf,u,hb⟩
def Fs(l:Ae En)(p:Bg):Ae En:=l.filter fun x=>decide (x.g≠p)
def Ajm(l:Ae En)(hl:Alz l<=1000000)(p:Bg)(A:Av AB)(c C:Y)(w:Ad)(hs:Sl w C A (Df l)):
 Bm eD 34 [.agg #[.slice A (Alz l) c],str p] w fun v w'=>∃u,v=.agg #[u]/\Bn w' w.heap.size 64 2 u (Alz (Fs l p)) (Df (Fs l p))/\Be w w':=by
 refine Bw func34 Z ntmps34 Bi Z ?_;refine(O 2) ?_;refine Dq Z Z Z ?_;rintro mb w1 bj a8 S;refine(Zn) ?_;rintro rb w2 bi a6 G;refine(O 4∘Zn) ?_;rintro Q w3 bh bf T;refine(Zs bf (hlt:=Bq _)) ?_;rintro w4 bd al;refine(O 7) ?_;have x13:=(S.trans G).trans T;have x4:Be w w4:=Bp x13 al x13.size (fun k t=>by have:=S.size;have:=G.size;grind);have a1:Q≠mb:=by have:=a8.lt;have:=G.size;omega
 have a0:Q≠rb:=by have:=a6.lt;omega
 have a7:=((a8.a G).a T).j al Bf;have a5:=(a6.a T).j al Bf;have a2:w.heap.size<=Q:=by have:=S.size;have:=G.size;omega
 refine Lo (fun((i,uo,wr):Y×Ah×Ad)=>(i<=Alz l/\Bk wr mb 33 [.slice A (Alz l) c]/\Bk wr rb 33 [.slice Aa 0 0]/\Bk wr Q 33 [uo]/\Bn wr w.heap.size 64 2 uo (Alz (Fs (l.take i) p)) (Df (Fs (l.take i) p))/\Be w wr,[(1,str (p)),(2,.pointer (J ⟨mb,0,Aa⟩)),(4,.pointer (J ⟨rb,0,Aa⟩)),(5,.pointer (J ⟨Q,0,Aa⟩)),(6,Bb i)],wr,Alz l-i)) (0,(.slice Aa 0 0),w4) ?_ ?_
 .exact⟨BC _,a7,a5,bd,Bn.nil _ _ _ _,x4⟩
 .rintro⟨i,uo,wr⟩⟨hi,hm,hr,ho,f,V⟩;refine(O 9)<|Zi (fun j=>?_) fun j=>?_
  .obtain⟨b,o,rfl,_,D⟩:=hs.Akz (l:=l) (i:=i) (c:=2) (fun _=>rfl) Bc j;have af:l.take (i+1)=l.take i++[l[i]]:=(CX j).symm;have bl:Alz (Fs (l.take i) p)<=1000000:=BA (TT _ _) Bf;generalize l[i]=x at D af;refine(O 10∘Zv (BR (D wr V 0 _ Z))∘O 3)<|Zi (fun aj=>?_) fun aj=>?_
   .have W:Fs (l.take (i+1)) p=Fs (l.take i) p++[x]:=by
     rw[af];unfold Fs;rw[Le];simp[aj]
    have ai:=ho.a (Be.drew wr);refine Lc (fun((P,E):Ah×Ad)=>(Bk E Q 33 [P]/\Bk E mb 33 [.slice (J ⟨b,o,Aa⟩) (Alz l) c]/\Bk E rb 33 [.slice Aa 0 0]/\Bn E w.heap.size 64 2 P (Alz (Fs (l.take i) p)+1) (Df (Fs (l.take i) p++[x]))/\Be w E,[(1,str (p)),(2,.pointer (J ⟨mb,0,Aa⟩)),(4,.pointer (J ⟨rb,0,Aa⟩)),(5,.pointer (J ⟨Q,0,Aa⟩)),(6,Bb i)],E)) ?_ ?_
    .obtain⟨Ao,co,rfl,_,_⟩:=f.slice;refine(Yr 11 (fun w'=>MapS w w' mb rb Q (.slice (J ⟨b,o,Aa⟩) (Alz l) c)) (MapS.drew ⟨V,hm,hr,_,ho⟩)) fun h=>(Gv [0,2]∘Yw 3 (he:=by exact fun _ ao=>Bo ao.m)∘Gv [4,5]∘Yw 6 (he:=by exact fun w' ao=>Dj x.cells (D w' ao.x)))<|Ye 1 7 ?_ ?_
     .refine(Jo 1 (he:=by exact Bo ai)) fun h=>?_;refine GB 7 1 ([x.cells]) Z Bi Z Z ip Eu Z Bc Z Z Z (by repeat' (first|exact Lh _|refine Lg.2 ⟨by first|rfl|assumption,?_⟩)) Bc ?_;rintro eb w5 a4 N y;refine⟨h.a y,fun h=>?_⟩;have g:=ai.a y;have x5:=(Be.drew wr).trans y;have a:=f.a x5;refine GW.append 8 0 Z Bi Z Z ip Eu Z Bc Z Z (a.l (BC _)) (Src.Akm (m:=1) ip (Sl.Akk N N.lt) Z (Qy [x]) Bc) CB X (BC _) ?_;rintro P E q K ab;refine⟨MapS.grown h a K,fun h=>?_⟩;refine(Gv [9]) ?_
      have B:=g.grown K fun e=>by
       obtain⟨_,l',n⟩:=a.K Q e.symm;exact n.ne g Bc Z
      refine(Yt 10 B (hlt:=Bq _)) ?_;rintro w7 L I;refine⟨MapS.put h I L a1 a0 a2,fun h=>?_⟩;refine(Yd) ?_
      have d:Bn E w.heap.size 64 2 P (Alz (Fs (l.take i) p)+1) (Df (Fs (l.take i) p++[x])):=by
       rw[Qz];refine Bn.base (by simpa using q) fun k t=>?_;rcases ab with e|e
       .exact(a.lt k (by rw[<-e];exact t)).1
       .rw[e]at t;injection t with t;have:=V.size;have:=x5.size;omega
      refine(Lm (P,w7)) ?_
      exact⟨L,h.m,h.r,Bn.j d I fun k t=>by
       obtain⟨_,l',n⟩:=d.K k t;simpa using n.ne B Bc,h.x⟩
     .refine TG 7 1 ([x.cells]) Z Z Z ip Eu Z Bc Z Z Z (by repeat' (first|exact Lh _|refine Lg.2 ⟨by first|rfl|assumption,?_⟩)) Bc ?_;rintro eb w5 a4 N y;refine⟨h.a y,fun h=>?_⟩;have g:=ai.a y;refine(Yo 1 (he:=by exact Bo g)) fun h=>?_;have x5:=(Be.drew wr).trans y;have a:=f.a x5;refine GW.append 8 0 Z Bi Z Z ip Eu Z Bc Z Z (a.l (BC _)) (Src.Akm (m:=1) ip (Sl.Akk N N.lt) Z (Qy [x]) Bc) CB X (BC _) ?_;rintro P E q K ab;refine⟨MapS.grown h a K,fun h=>?_⟩;refine(Gv [9]) ?_
      have B:=g.grown K fun e=>by
       obtain⟨_,l',n⟩:=a.K Q e.symm;exact n.ne g Bc Z
      refine(Yt 10 B (hlt:=Bq _)) ?_;rintro w7 L I;refine⟨MapS.put h I L a1 a0 a2,fun h=>?_⟩;refine(Yd) ?_
      have d:Bn E w.heap.size 64 2 P (Alz (Fs (l.take i) p)+1) (Df (Fs (l.take i) p++[x])):=by
       rw[Qz];refine Bn.base (by simpa using q) fun k t=>?_;rcases ab with e|e
       .exact(a.lt k (by rw[<-e];exact t)).1
       .rw[e]at t;injection t with t;have:=V.size;have:=x5.size;omega
      refine(Lm (P,w7)) ?_
      exact⟨L,h.m,h.r,Bn.j d I fun k t=>by
       obtain⟨_,l',n⟩:=d.K k t;simpa using n.ne B Bc,h.x⟩
    .rintro⟨P,E⟩⟨B,bb,ba,q,a9⟩;refine(O 6)<|Lb ((i+1),P,E) ?_;dsimp only;rw[W,Bx];exact⟨j,bb,ba,B,q,a9⟩
   .have W:Fs (l.take (i+1)) p=Fs (l.take i) p:=by
     rw[af];unfold Fs;rw[Le];simp[aj]
    refine(O 7)<|Lb ((i+1),uo,wr) ?_;dsimp only;rw[W];exact⟨j,hm,hr,ho,f,V⟩
  .obtain rfl:i=Alz l:=X;rw[Dh (Bq _)]at f;refine(O 3∘Zv (BX ho)) ?_;have xr:Be wr wr:=Be.refl _;refine(Zs hr (hlt:=Bq _)) ?_;rintro w8 bc a3;refine(O 1∘Kv bc) ?_
   exact⟨uo,Z,Bn.j f a3 fun k t=>by
    obtain⟨_,l',n⟩:=f.K k t;simpa using n.ne hr Bc,Bp V a3 V.size (by simp;have:=S.size;omega)⟩
def MapS.ne{a:Ad}{B n T b:Y}{u:Ah}{xs l:Bl}(f:Bn a B 64 2 u n xs)(g:Bk a b T l)(h:64≠T):J b≠Pi u:=fun e=>by
 obtain⟨_,i,d⟩:=f.K b e.symm;exact d.ne g h Z
def ZR{a b:Y}{v u:Ah}(h:Pi v=Pi u∨Pi v=J b)(d:J a≠Pi u)(hl:a<b):J a≠Pi v:=fun e=>by
 grind
def Ht(x:En)(r:Ae En×Ar)(y:En):Ae En×Ar:=
 (r.1++(if Gd x.g y.g<=0/\r.2=Ai then[x]else[])++(if Gd x.g y.g≠0 then[y]else[]),r.2||decide (Gd x.g y.g<=0))
def EP(x:En)(l:Ae En):Ae En×Ar:=l.foldl (Ht x) ([],Ai)
def Db(l:Ae En)(x:En):Ae En:=if(EP x l).2 then(EP x l).1 else(EP x l).1++[x]
def Ajj(x:En)(l:Ae En)(y:En):EP x (l++[y])=Ht x (EP x l) y:=by
 unfold EP;simp
def pA(x:En)(l:Ae En):Alz (EP x l).1<=2*Alz l:=by
 have a:∀(l:Ae En) (r:Ae En×Ar),Alz (l.foldl (Ht x) r).1<=Alz r.1+2*Alz l:=fun l=>by
  induction l with
  |nil=>simp
  |cons y l ih=>
   intro r;refine BA (ih _) ?_
   have:Alz (Ht x r y).1<=Alz r.1+2:=by
    unfold Ht;rw[Bx,Bx];split<;>split<;>simp<;>omega
   grind
 have:=a l ([],Ai);simpa[EP]using this
def pC(l:Ae En)(hl:Alz l<=1000000)(x:En)(A:Av AB)(c C:Y)(w:Ad)(hG:DE w)(b9:Alz x.g<=2000000)(cc:∀y∈l,Alz y.g<=2000000)(hs:Sl w C A (Df l)):
 Bm eD 33 [.agg #[.slice A (Alz l) c],.agg x.cells.toArray] w fun v w'=>∃u,v=.agg #[u]/\Bn w' w.heap.size 64 2 u (Alz (Db l x)) (Df (Db l x))/\Be w w':=by
 refine Bw func33 Z ntmps33 Bi Z ?_;refine(O 2) ?_;refine Dq Z Z Z ?_;rintro mb w1 ck b8 bq;refine Dq Z Z Z ?_;rintro xb w2 cj ba bd;refine(Zn) ?_;rintro rb w3 ch b5 a6;refine(O 4∘Zn) ?_;rintro N w4 cg ce a5;replace ba:Bk w2 xb 64 x.cells:=ba;refine(Zs ce (hlt:=Bq _)) ?_;rintro w5 b3 a9;refine(O 11) ?_;have bm:=((bq.trans bd).trans a6).trans a5;have z1:=bq.size;have z2:=bd.size;have z3:=a6.size;have l1:=b8.lt;have l2:=ba.lt;have l3:=b5.lt;have a4:N≠mb:=X;have a3:N≠rb:=X;have a2:N≠xb:=X;have a8:w.heap.size<=N:=X;have x5:Be w w5:=Bp bm a9 bm.size (fun k I=>by grind);have b7:=(((b8.a bd).a a6).a a5).j a9 Bf;have b6:=((ba.a a6).a a5).j a9 (by simpa using a2.symm);have b4:=(b5.a a5).j a9 Bf;refine Lo (fun((i,dv,uo,wr):Y×Ar×Ah×Ad)=>(i<=Alz l/\dv=(EP x (l.take i)).2/\MapS w wr mb rb N (.slice A (Alz l) c)/\Bk wr xb 64 x.cells/\Bk wr N 33 [uo]/\J xb≠Pi uo/\Bn wr w.heap.size 64 2 uo (Alz (EP x (l.take i)).1) (Df (EP x (l.take i)).1),[(2,.pointer (J ⟨mb,0,Aa⟩)),(3,.pointer (J ⟨xb,0,Aa⟩)),(4,.pointer (J ⟨rb,0,Aa⟩)),(5,.pointer (J ⟨N,0,Aa⟩)),(6,.bool dv),(7,Bb i)],wr,Alz l-i)) (0,Ai,(.slice Aa 0 0),w5) ?_ ?_
 .exact⟨BC _,Z,⟨x5,b7,b4,_,b3⟩,b6,b3,nofun,Bn.nil _ _ _ _⟩
 .rintro⟨i,dv,uo,wr⟩⟨hi,a0,hM,bj,ho,b0,B⟩;have hx:=hM.x;refine(O 5∘Zv (Bo hM.m)∘O 3)<|Zi (fun q=>?_) fun q=>?_
  .obtain⟨b,o,rfl,_,W⟩:=hs.Akz (l:=l) (i:=i) (c:=2) (fun _=>rfl) Bc q;have bs:l.take (i+1)=l.take i++[l[i]]:=(CX q).symm
   have a7:Alz (EP x (l.take i)).1<=2000000:=by
    have:=pA x (l.take i);rw[BW]at this;omega
   have bn:=cc _ (BL q);generalize l[i]=y at W bs bn;have aj:=Ajj x (l.take i) y;rw[<-bs]at aj;generalize EP x (l.take i)=r at aj B a7 a0;obtain⟨os,dn⟩:=r;simp only at B a7 a0;subst a0;refine(O 4∘Yr 10 (fun w'=>Be wr w') (Be.drew wr)) fun g=>(Gv [0]∘Yw 1 (he:=by exact fun _ L=>Bo (bj.a L))∘Gv [2]∘Yw 3 (he:=by exact fun _ L=>Bo ((hM.a L).m))∘Gv [4,5,6]∘Yw 7 (he:=by exact fun w' L=>BR (W w' (hx.trans L) 0 _ Z))∘Yc 8 (fI x.g y.g b9 bn _ ((hG.a hx).a g))) ?_;rintro _ T⟨rfl,cb⟩;refine⟨g.trans cb,fun g=>?_⟩;refine(Gv [9]∘Yd∘O 2) ?_;have S:=hM.a g;have Q:=bj.a g;have ai:=ho.a g;have h:=B.a g;generalize b2:Gd x.g y.g=cv at aj;refine Ld (fun((p,d1,v1,wz):(Ae En)×Ar×Ah×Ad)=>(p=os++(if cv<=0/\dv=Ai then[x]else[])/\d1=or dv (decide (cv<=0))/\MapS w wz mb rb N (.slice (J ⟨b,o,Aa⟩) (Alz l) c)/\Bk wz xb 64 x.cells/\Bk wz N 33 [v1]/\J xb≠Pi v1/\Bn wz w.heap.size 64 2 v1 (Alz p) (Df p),[(2,.pointer (J ⟨mb,0,Aa⟩)),(3,.pointer (J ⟨xb,0,Aa⟩)),(4,.pointer (J ⟨rb,0,Aa⟩)),(5,.pointer (J ⟨N,0,Aa⟩)),(6,.bool d1),(7,Bb i),(8,Bb (cv:H))],wz)) ?_ ?_
   .refine(O 4)<|Zd 28 (fun c1=>?_) fun c1=>?_
    .refine(O 4) ?_;refine Ga Z (fun hd=>?_) (fun hd=>?_)
     .have HU:dv=Ai:=by cases dv<;>simp at hd ⊢
      obtain⟨Ao,co,rfl,_,_⟩:=h.slice;refine(O 4∘Zv (BX Q)) ?_;refine Mc 1 ([x.cells]) Z Z ip Eu Z Bc Z Z Z (by repeat' (first|exact Lh _|refine Lg.2 ⟨by first|rfl|assumption,?_⟩)) Bc ?_;rintro eb w7 ao G a;have d:=h.a a;have a1:=S.a a;refine HM Z Z ip Eu Z Bc Z Z (a1.x) (d) (Src.Akm (m:=1) ip (Sl.Akk G G.lt) Z (Qy [x]) Bc) CB X ?_;rintro v8 w8 t ca n P;refine(O 1) ?_
      have f:Bn w8 w.heap.size 64 2 v8 (Alz (os++[x])) (Df (os++[x])):=by
       rw[Qz,Bx];simpa using t
      have D:=(ai.a a).grown n (MapS.ne d (ai.a a) Bc);refine(Zt D (hlt:=Bq _)) ?_;rintro w9 E j;refine(O 4∘Lm ((os++[x]),Af,v8,w9)) ?_
      exact⟨Bf,Bf,(a1.grown d n).put j E a4 a3 a8,((Q.a a).grown n b0).j j (by simpa using a2.symm),E,ZR P b0 (Q.a a).lt,Bn.j f j fun k I=>by
       obtain⟨_,l',K⟩:=f.K k I;simpa using K.ne D Bc⟩
     .refine(O 1∘Lm (os,dv,uo,T)) ?_;grind
    .refine(O 6∘Lm (os,dv,uo,T)) ?_;grind
   .rintro⟨p,d1,v1,wz⟩⟨e1,e2,bl,ab,bb,al,V⟩;refine(O 5)<|Zi (fun bi=>?_) fun bi=>?_
    .have af:=bb.a (Be.drew wz);have bc:=V.a (Be.drew wz);have cl:=bl.x.size
     have cf:Alz p<=3000000:=by
      rw[e1,Bx];split<;>simp<;>omega
     refine Lc (fun((v6,T):Ah×Ad)=>(MapS w T mb rb N (.slice (J ⟨b,o,Aa⟩) (Alz l) c)/\Bk T xb 64 x.cells/\Bk T N 33 [v6]/\J xb≠Pi v6/\Bn T w.heap.size 64 2 v6 (Alz (p++[y])) (Df (p++[y])),[(2,.pointer (J ⟨mb,0,Aa⟩)),(3,.pointer (J ⟨xb,0,Aa⟩)),(4,.pointer (J ⟨rb,0,Aa⟩)),(5,.pointer (J ⟨N,0,Aa⟩)),(6,.bool d1),(7,Bb i)],T)) ?_ ?_
     .obtain⟨Ao,co,rfl,_,_⟩:=V.slice;refine(Yr 11 (fun w'=>MapS w w' mb rb N (.slice (J ⟨b,o,Aa⟩) (Alz l) c)/\Bk w' xb 64 x.cells) ⟨bl.drew,ab.drew⟩) fun g=>(Gv [0,2]∘Yw 3 (he:=by exact fun _ L=>Bo L.1.m)∘Gv [4,5]∘Yw 6 (he:=by exact fun w' L=>Dj y.cells (W w' L.1.x)))<|Ye 1 7 ?_ ?_
      .refine(Jo 1 (he:=by exact Bo af)) fun g=>?_;refine GB 7 1 ([y.cells]) Z Bi Z Z ip Eu Z Bc Z Z Z (by repeat' (first|exact Lh _|refine Lg.2 ⟨by first|rfl|assumption,?_⟩)) Bc ?_;rintro eb w7 ao G a;refine⟨⟨g.1.a a,g.2.a a⟩,fun g=>?_⟩;have d:=bc.a a;refine GW.append 8 0 Z Bi Z Z ip Eu Z Bc Z Z (d.l (BC _)) (Src.Akm (m:=1) ip (Sl.Akk G G.lt) Z (Qy [y]) Bc) CB X (BC _) ?_;rintro v8 w8 t n P;refine⟨⟨MapS.grown g.1 d n,g.2.grown n al⟩,fun g=>?_⟩;refine(Gv [9]) ?_;have D:=(af.a a).grown n (MapS.ne d (af.a a) Bc)
       have f:Bn w8 w.heap.size 64 2 v8 (Alz (p++[y])) (Df (p++[y])):=by
        rw[Qz,Bx];refine Bn.base (by simpa using t) fun k I=>?_;rcases P with e|e
        .exact(d.lt k (by rw[<-e];exact I)).1
        .rw[e]at I;injection I with I;have:=a.size;have:wz.drew.heap.size=wz.heap.size:=rfl;omega
       refine(Yt 10 D (hlt:=Bq _)) ?_;rintro w9 E j;refine⟨⟨g.1.put j E a4 a3 a8,g.2.j j (by simpa using a2.symm)⟩,fun g=>?_⟩;refine(Yd∘Lm (v8,w9)) ?_
       exact⟨g.1,g.2,E,ZR P al (ab.drew.a a).lt,Bn.j f j fun k I=>by
        obtain⟨_,l',K⟩:=f.K k I;simpa using K.ne D Bc⟩
      .refine TG 7 1 ([y.cells]) Z Z Z ip Eu Z Bc Z Z Z (by repeat' (first|exact Lh _|refine Lg.2 ⟨by first|rfl|assumption,?_⟩)) Bc ?_;rintro eb w7 ao G a;refine⟨⟨g.1.a a,g.2.a a⟩,fun g=>?_⟩;refine(Yo 1 (he:=by exact Bo (af.a a))) fun g=>?_;have d:=bc.a a;refine GW.append 8 0 Z Bi Z Z ip Eu Z Bc Z Z (d.l (BC _)) (Src.Akm (m:=1) ip (Sl.Akk G G.lt) Z (Qy [y]) Bc) CB X (BC _) ?_;rintro v8 w8 t n P;refine⟨⟨MapS.grown g.1 d n,g.2.grown n al⟩,fun g=>?_⟩;refine(Gv [9]) ?_;have D:=(af.a a).grown n (MapS.ne d (af.a a) Bc)
       have f:Bn w8 w.heap.size 64 2 v8 (Alz (p++[y])) (Df (p++[y])):=by
        rw[Qz,Bx];refine Bn.base (by simpa using t) fun k I=>?_;rcases P with e|e
        .exact(d.lt k (by rw[<-e];exact I)).1
        .rw[e]at I;injection I with I;have:=a.size;have:wz.drew.heap.size=wz.heap.size:=rfl;omega
       refine(Yt 10 D (hlt:=Bq _)) ?_;rintro w9 E j;refine⟨⟨g.1.put j E a4 a3 a8,g.2.j j (by simpa using a2.symm)⟩,fun g=>?_⟩;refine(Yd∘Lm (v8,w9)) ?_
       exact⟨g.1,g.2,E,ZR P al (ab.drew.a a).lt,Bn.j f j fun k I=>by
        obtain⟨_,l',K⟩:=f.K k I;simpa using K.ne D Bc⟩
     .rintro⟨v6,T⟩⟨S,Q,ai,bx,h⟩
      have e3:EP x (l.take (i+1))=(p++[y],d1):=by
       rw[aj,Ht,b2,Aj bi,<-e1,<-e2]
      refine(O 6)<|Lb ((i+1),d1,v6,T) ?_;dsimp only;rw[e3];exact⟨q,Z,S,Q,ai,bx,h⟩
    .have e3:EP x (l.take (i+1))=(p,d1):=by
      rw[aj,Ht,b2,Ag bi,List.append_nil,<-e1,<-e2]
     refine(O 7)<|Lb ((i+1),d1,v1,wz) ?_;dsimp only;rw[e3];exact⟨q,Z,bl,ab,bb,al,V⟩
  .obtain rfl:i=Alz l:=X;rw[Dh (Bq _)]at B;have hx:=hM.x;refine(O 3)<|Ld (fun((v6,T):Ah×Ad)=>(MapS w T mb rb N (.slice A (Alz l) c)/\Bk T N 33 [v6]/\Bn T w.heap.size 64 2 v6 (Alz (Db l x)) (Df (Db l x)),[(2,.pointer (J ⟨mb,0,Aa⟩)),(3,.pointer (J ⟨xb,0,Aa⟩)),(4,.pointer (J ⟨rb,0,Aa⟩)),(5,.pointer (J ⟨N,0,Aa⟩))],T)) ?_ ?_
   .refine(O 4) ?_;refine Ga Z (fun bh=>?_) (fun bh=>?_)
    .have HU:(EP x l).2=Ai:=by
      have e:dv=(EP x l).2:=by rw[a0,Dh (Bq _)]
      rw[<-e];cases dv<;>simp at bh ⊢
     have bf:Db l x=(EP x l).1++[x]:=by
      unfold Db;rw[HU];rfl
     have a7:Alz (EP x l).1<=2000000:=by
      have:=pA x l;omega
     generalize(EP x l).1=os at B bf a7;obtain⟨Ao,co,rfl,_,_⟩:=B.slice;refine(O 3∘Zv (BX bj)) ?_;refine Mc 1 ([x.cells]) Z Z ip Eu Z Bc Z Z Z (by repeat' (first|exact Lh _|refine Lg.2 ⟨by first|rfl|assumption,?_⟩)) Bc ?_;rintro eb w7 ao G a;have d:=B.a a;have a1:=hM.a a;refine HM Z Z ip Eu Z Bc Z Z (a1.x) (d) (Src.Akm (m:=1) ip (Sl.Akk G G.lt) Z (Qy [x]) Bc) CB X ?_;rintro v8 w8 t ca n P;refine(O 1) ?_
     have f:Bn w8 w.heap.size 64 2 v8 (Alz (os++[x])) (Df (os++[x])):=by
      rw[Qz,Bx];simpa using t
     have D:=(ho.a a).grown n (MapS.ne d (ho.a a) Bc);refine(Zt D (hlt:=Bq _)) ?_;rintro w9 E j;refine(O 1∘Lm (v8,w9)) ?_;rw[bf]
     exact⟨(a1.grown d n).put j E a4 a3 a8,E,Bn.j f j fun k I=>by
      obtain⟨_,l',K⟩:=f.K k I;simpa using K.ne D Bc⟩
    .have HU:(EP x l).2=Af:=by
      have e:dv=(EP x l).2:=by rw[a0,Dh (Bq _)]
      rw[<-e];cases dv<;>simp at bh ⊢
     have bf:Db l x=(EP x l).1:=by
      unfold Db;rw[HU];rfl
     refine(O 1∘Lm (uo,wr)) ?_;grind
   .rintro⟨v6,T⟩⟨S,ai,h⟩;refine(O 2∘Zv (BX ai)∘Zs S.r (hlt:=Bq _)) ?_;rintro w8 cd b1;refine(O 1∘Kv cd) ?_
    exact⟨v6,Z,Bn.j h b1 fun k I=>by
     obtain⟨_,l',K⟩:=h.K k I;simpa using K.ne S.r Bc,Bp S.x b1 S.x.size Bf⟩
end
namespace Wal
open Rec Pth Dsk
def chs:Y->Ae By->Ae Ch
 |_,[]=>[]
 |i,t::T=>.write i t::chs (i+1) T
def Us:Y->Ae By->By->By
 |_,[],s=>s
 |i,t::T,s=>Us (i+1) T ((Ch.write i t).ap s)
def XM:∀(T:Ae By) (i:Y),Alz (chs i T)=Alz T
 |[],_=>rfl
 |t::T,i=>by simp[chs,XM]
def Vj{s t:By}{i:Y}(ht:Alz t=512)(hm:Alz s%512=0):Alz ((Ch.write i t).ap s)%512=0:=by
 rw[Nw ht hm];omega
def eC:∀(T:Ae By) (i:Y) (s:By),(∀t∈T,Alz t=512)->Alz s%512=0->Alz (Us i T s)=if T=[]then Alz s else max (Alz s) ((i+Alz T)*512)
 |[],i,s,_,_=>rfl
 |t::T,i,s,hT,hm=>by
  have ht:=hT t Bh;rw[Us,eC T (i+1) _ Bf (Vj ht hm),Nw ht hm,Ag (List.cons_ne_nil _ _),CF];grind
def Air{g a:Y}{l:Ae Nt}(d:g<=4611686018427387904)(hl:Good l)(e:a+Alz l<=2147483647)(h2:Alz l<=100):∀k,k<Alz l+1->(Cu ((txs g a l).getD k [])).1.gen=(g:H):=by
 intro k f;by_cases q:k<Alz l
 .rw[bT g a l q,(VF d l a hl e k q).eq]
 .obtain rfl:k=Alz l:=X;rw[pm,(aF Bh d e Bh).eq]
def Zz{g:Y}:∀(ls:Ae (Ae Nt)) (i:Y),i+Du ls<=20->g<=4611686018427387904->Ob ls->∀k,k<Du ls->(Cu ((Dy g i ls).getD k [])).1.gen=(g:H)
 |[],i,_,_,_,k,hk=>by simp[Du]at hk
 |l::ls,i,hi,hg,hl,k,hk=>by
  rw[PA]at hi hk;have h1:=hl l Bh;by_cases q:k<Alz l+1
  .have e:(Dy g i (l::ls)).getD k []=(txs g i l).getD k []:=by
    rw[Dy];simp;rw[FR (by rw[IJ];omega)]
   rw[e];exact Air hg h1.1 X X k q
  .have e:(Dy g i (l::ls)).getD k []=(Dy g (i+Alz l+1) ls).getD (k-(Alz l+1)) []:=by
    rw[Dy];simp;rw[Io (by rw[IJ];omega),IJ]
   rw[e];exact Zz _ _ X hg (fun x a=>hl x Bf) _ X
def aK{gen:H}{rd:Y->By}{m f i:Y}{op:Ae Nt}{out:Ae (Ae Nt)}{b:Y}(hi:m<=i):CK gen rd m f i op out b=(out,b):=by
 cases f with
 |zero=>rfl
 |succ f=>rw[CK,Ag X]
def okT(a:Y)(l:Ae Nt):Prop:=0<Alz l/\Alz l+a<20/\∀n∈l,n.kind=1/\Ds n.mem
instance(a:Y)(l:Ae Nt):Decidable (okT a l):=by unfold okT;infer_instance
end Wal
namespace Cat
open Pth Rec Srt Dsk Wal
structure Rest(D:Dv):Prop where
 ok:D.q
 dead:D.dead=Ai
 pend:D.pend=[]
 kept:D.kept=D.now
def FW(l:Ae M):Prop:=∀m∈l,m.sum<=4294967295
def Ake:(Cu (EQ 512)).2≠0:=by
 unfold Cu;rw[Ag]
 .simp
 .rintro⟨_,_,h⟩;have a:(DH (EQ 512)).kind=0:=rfl;unfold Fa at h;rw[Aj (by unfold bad;omega)]at h;grind
end Cat
section
open Pth Rec Srt Dsk Wal Cat
abbrev BM:=Bg
def GH(cs:Ae Ch)(s:BM):BM:=cs.foldl (fun a c=>c.ap a) s
def sf(a b:Ae Ch)(s:BM):GH (a++b) s=GH b (GH a s):=PT ..
def eE:∀(T:Ae BM) (i:Y) (s:BM),GH (chs i T) s=Us i T s
 |[],_,_=>rfl
 |t::T,i,s=>by
  show GH (chs _ T) _=_;rw[eE];rfl
structure Bt(D:Dv)(cs:Ae Ch)(n:Y)(r:Dv×Y):Prop where
 cap:r.1.cap=D.cap
 calls:r.1.calls<=D.calls+n
 at_:r.1.at_<=D.at_
 keep:Alz r.1.keep<=Alz D.keep
 out:(r.2=0/\r.1.dead=Ai/\r.1.kept=D.kept/\r.1.now=GH cs D.now/\r.1.pend=D.pend++cs/\r.1.keep=D.keep)∨
  (r.2=190/\D.at_≠0/\r.1.dead=Af/\r.1.pend=[]/\r.1.kept=r.1.now/\r.1.at_=0/\∃j,r.1.now=DM (D.pend++cs.take j) D.keep D.kept)
def Bt.nil{D:Dv}(h:D.dead=Ai):Bt D [] 0 (D,0):=⟨Z,Bq _,Bq _,Bq _,.inl ⟨Z,h,Z,Z,Bh,Z⟩⟩
def Bt.Ako{D:Dv}(h:D.dead=Ai)(c:Ch):Bt D [c] 1 (D.Ako (J c)):=by
 by_cases a:D.at_=1
 .rw[UN (by exact a)];exact⟨Z,PY _,BC _,BC _,.inr ⟨Z,X,Z,Z,Z,Z,1,Z⟩⟩
 .rw[UO (by exact a)];exact⟨Z,Bq _,Nat.sub_le _ _,Bq _,.inl ⟨Z,h,Z,Z,Z,Z⟩⟩
def Bt.read{D:Dv}(h:D.dead=Ai){i:H}(h0:0<=i)(h1:i<((Alz D.now/512:Y):H)):Bt D [] 1 ((D.read i).1,0)/\(D.read i).2=(BS D.now i.toNat,0):=by
 have e:D.read i=(CZ D 1,BS D.now i.toNat,0):=by
  unfold Dv.read;rw[Ag Bf,Ag X];rfl
 rw[e];exact⟨⟨Z,Bq _,Bq _,Bq _,.inl ⟨Z,h,Z,Z,(List.append_nil _).symm,Z⟩⟩,Z⟩
def Bt.trans{D:Dv}{d a:Ae Ch}{n k:Y}{r r2:Dv×Y}(h:Bt D d n r)(h0:r.2=0)(h2:Bt r.1 a k r2):Bt D (d++a) (n+k) r2:=by
 rcases h.out with⟨_,w,p,v,t,o⟩|⟨x,_⟩
 .refine⟨h2.cap.trans h.cap,by have:=h.calls;have:=h2.calls;omega,BA h2.at_ h.at_,BA h2.keep h.keep,?_⟩;rcases h2.out with⟨i,m,g,f,l,e⟩|⟨i,m,g,f,l,e,j,q⟩
  .exact .inl ⟨i,m,g.trans p,by rw[f,v,sf],Bf,e.trans o⟩
  .have:=h.at_;refine .inr ⟨i,X,g,f,l,e,Alz d+j,?_⟩;rw[q,t,o,p,Cq,List.take_length_add_append]
 .omega
def Bt.stop{D:Dv}{d:Ae Ch}{n:Y}{r:Dv×Y}(h:Bt D d n r)(h0:r.2≠0)(a:Ae Ch){e:Y}(o:n<=e):Bt D (d++a) e r:=by
 refine⟨h.cap,BA h.calls X,h.at_,h.keep,?_⟩;rcases h.out with⟨q,_⟩|⟨m,l,k,i,g,f,j,p⟩
 .omega
 .refine .inr ⟨m,l,k,i,g,f,min j (Alz d),?_⟩;grind
def Bt.l{D:Dv}{cs:Ae Ch}{n n2:Y}{r:Dv×Y}(h:Bt D cs n r)(hn:n<=n2):Bt D cs n2 r:=⟨h.cap,BA h.calls X,h.at_,h.keep,h.out⟩
def Bt.write{D:Dv}(h:D.dead=Ai){i:Y}{t:BM}(hi:i<D.cap)(ht:Alz t=512):Bt D [.write i t] 1 (D.write i t):=by
 have e:D.write i t=D.Ako (J (.write i t)):=by
  unfold Dv.write;rw[Ag Bf,Ag X,Ag X];rfl
 rw[e];exact Bt.Ako h _
def Bt.live{D:Dv}{d:Ae Ch}{n:Y}{r:Dv×Y}(h:Bt D d n r)(h0:r.2=0):r.1.dead=Ai:=by
 rcases h.out with⟨_,a,_⟩|⟨a,_⟩
 .omega
 .omega
def Bt.writes:∀(T:Ae BM) {D:Dv} (i:Y),D.dead=Ai->(∀t∈T,Alz t=512)->i+Alz T<=D.cap->Bt D (chs i T) (Alz T) (writes D i T)
 |[],D,i,h,_,_=>Bt.nil h
 |t::T,D,i,h,hT,hi=>by
  rw[CF]at hi;have b:=Bt.write h (i:=i) (t:=t) X Bf;rw[Tw];show Bt D ([.write i t]++chs (i+1) T) (Alz T+1) _;split
  .rename_i q;exact(b.trans q (Bt.writes T _ (b.live q) Bf (by rw[b.cap];omega))).l X
  .rename_i q;exact b.stop q _ X
structure Sy(D:Dv)(cs:Ae Ch)(n:Y)(r:Dv×Y):Prop where
 cap:r.1.cap=D.cap
 calls:r.1.calls<=D.calls+n
 at_:r.1.at_<=D.at_
 keep:Alz r.1.keep<=Alz D.keep
 pend:r.1.pend=[]
 kept:r.1.kept=r.1.now
 out:(r.2=0/\r.1.dead=Ai/\r.1.now=GH cs D.now)∨(r.2=190/\D.at_≠0/\r.1.dead=Af/\r.1.at_=0/\∃j,r.1.now=DM (cs.take j) D.keep D.now)
def Sy.Alv{D:Dv}(h:Cat.Rest D){d:Ae Ch}{n:Y}{r:Dv×Y}(b:Bt D d n r)(h0:r.2≠0):Sy D d (n+1) r:=by
 rcases b.out with⟨a,_⟩|⟨m,l,k,i,g,f,j,e⟩
 .omega
 .exact⟨b.cap,by have:=b.calls;omega,b.at_,b.keep,i,g,.inr ⟨m,l,k,f,j,by rw[e,h.pend,h.kept,EW]⟩⟩
def Sy.of_ok{D:Dv}(h:Cat.Rest D){d:Ae Ch}{n:Y}{E:Dv}{e:Y}(b:Bt D d n (E,e))(h0:e=0):Sy D d (n+1) E.w:=by
 rcases b.out with⟨q,p,o,m,l,k⟩|⟨a,_⟩
 .have g:=b.calls;have j:=b.at_;have i:=b.keep
  have e:E.w=E.Ako Aa:=by
   unfold Dv.w;rw[Ag Bf]
  rw[e];by_cases f:E.at_=1
  .rw[UN (by exact f)];refine⟨b.cap,Uf g,BC _,BC _,Z,Z,.inr ⟨Z,?_,Z,Z,Alz d,?_⟩⟩
   .grind
   .show DM E.pend E.keep E.kept=_;rw[o,l,k,h.pend,h.kept,EW,DY]
  .rw[UO (by exact f)];exact⟨b.cap,Nat.succ_le_succ g,BA (Nat.sub_le _ _) j,i,Z,Z,.inl ⟨Z,p,m⟩⟩
 .omega
def Sy.of{D:Dv}(h:Cat.Rest D){a:Ae Ch}{n:Y}{r:Dv×Y}(b:Bt D a n r):Sy D a (n+1) (if r.2=0 then r.1.w else r):=by
 split
 .rename_i q;exact Sy.of_ok h b q
 .rename_i q;exact Sy.Alv h b q
def lG{cap:Y}:∀(cs:Ae Ch) (s:BM),(∀c∈cs,c.ok cap)->Alz s<=512*cap->Alz s%512=0->Alz (GH cs s)<=512*cap/\Alz (GH cs s)%512=0
 |[],_,_,h1,h2=>⟨h1,h2⟩
 |c::cs,s,h,h1,h2=>lG cs _ Bf (Ut Bf h1) (Xv (h c (Ip ..)) h2)
def Sy.ok{D:Dv}(h:Cat.Rest D){a:Ae Ch}{n:Y}{r:Dv×Y}(b:Sy D a n r)(f:∀c∈a,c.ok D.cap):r.1.q:=by
 have q:Alz r.1.now<=512*D.cap/\Alz r.1.now%512=0:=by
  rcases b.out with⟨_,_,e⟩|⟨_,_,_,_,j,e⟩
  .rw[e];exact lG _ _ f h.ok.now h.ok.nowM
  .rw[e];exact YG _ _ _ Bf h.ok.now h.ok.nowM
 refine⟨b.cap▸h.ok.cap,?_,?_,?_,q.2,fun c d=>by rw[b.pend]at d;grind⟩
 .rw[b.kept,b.cap];exact q.1
 .rw[b.cap];exact q.1
 .rw[b.kept];omega
def Sy.live{D:Dv}(h:Cat.Rest D){d:Ae Ch}{n:Y}{r:Dv×Y}(b:Sy D d n r)(f:∀c∈d,c.ok D.cap)(h0:r.2=0):Cat.Rest r.1/\r.1.now=GH d D.now:=by
 rcases b.out with⟨_,a,e⟩|⟨a,_⟩
 .exact⟨⟨b.ok h f,a,b.pend,b.kept⟩,e⟩
 .omega
structure Gone(D:Dv):Prop where
 ok:D.q
 dead:D.dead=Af
 pend:D.pend=[]
 kept:D.kept=D.now
 at_:D.at_=0
def Sy.Alf{D:Dv}(h:Cat.Rest D){d:Ae Ch}{n:Y}{r:Dv×Y}(b:Sy D d n r)(f:∀c∈d,c.ok D.cap)(h0:r.2≠0):r.2=190/\Gone r.1/\D.at_≠0/\∃j,r.1.now=DM (d.take j) D.keep D.now:=by
 rcases b.out with⟨a,_⟩|⟨l,k,i,g,j,e⟩
 .omega
 .exact⟨l,⟨b.ok h f,i,b.pend,b.kept,g⟩,k,j,e⟩
def Sy.sm{D:Dv}{cs:Ae Ch}{n k:Y}{r:Dv×Y}(b:Sy D cs n r)(h:Sm D k):Sm r.1 (k+n):=
 ⟨by have:=b.calls;have:=h.calls;omega,by rw[b.pend];simp,BA b.at_ h.at_,BA b.keep h.keep⟩
structure Upn(n:Y)(P:Y->BM->Prop)(s s':BM):Prop where
 le:Alz s<=Alz s'∨n*512<=Alz s'
 sec:∀j,j<Alz s'/512->(j<Alz s/512/\BS s' j=BS s j)∨(Alz s/512<=j/\BS s' j=EQ 512)∨P j (BS s' j)
def Upn.refl(n:Y)(P:Y->BM->Prop)(s:BM):Upn n P s s:=⟨X,Bf⟩
def Akf{a b:Y}(h:(b+1)*512<=a):BS (EQ a) b=EQ 512:=by
 unfold BS EQ;grind
def Aen{s z:BM}{j:Y}(h:(j+1)*512<=Alz s):BS (s++z) j=BS s j:=by
 unfold BS;grind
def Aeo{s z:BM}{j:Y}(hm:Alz s%512=0)(h:Alz s<=j*512):BS (s++z) j=BS z (j-Alz s/512):=by
 unfold BS;rw[List.drop_append,La h,EW,show j*512-Alz s=(j-Alz s/512)*512 by omega]
def pJ{s t:BM}{i j:Y}(hm:Alz s%512=0)(ht:Alz t=512)(g:j<Alz ((Ch.write i t).ap s)/512):
 BS ((Ch.write i t).ap s) j=if j=i then t else if j<Alz s/512 then BS s j else EQ 512:=by
 have f:=Nw (i:=i) ht hm;by_cases a:j=i∨j<Alz s/512
 .have:=Aer hm ht a;rw[show BS _ j=sec _ j from Z,this];split
  .rfl
  .rename_i q;rw[Aj X];rfl
 .rw[Ag X,Ag X];rw[Xw]
  have e:Alz ((s++EQ ((i+1)*512-Alz s)).take (i*512))=i*512:=by
   rw[BW,Bx,PH];omega
  rw[Cq,Aen X]
  have d:BS ((s++EQ ((i+1)*512-Alz s)).take (i*512)) j=BS (s++EQ ((i+1)*512-Alz s)) j:=by
   unfold BS;rw[WK,WW,Hi X]
  rw[d,Aeo hm X,Akf X]
def Wr(cs:Ae Ch):Prop:=∀c∈cs,∃j t,c=.write j t/\Alz t=512
def CP(cs:Ae Ch)(j:Y)(t:BM):Prop:=Ch.write j t∈cs
def Wk{s t:BM}{i:Y}(hm:Alz s%512=0)(ht:Alz t=512)(n:Y):Upn n (CP [.write i t]) s ((Ch.write i t).ap s):=by
 refine⟨.inl (by rw[Nw ht hm];omega),fun j a=>?_⟩;rw[pJ hm ht a];by_cases d:j=i
 .subst d;rw[Aj Z];exact .inr (.inr (Cp.2 Z))
 .grind
def Upn.trans{n:Y}{P:Y->BM->Prop}{a b c:BM}(h1:Upn n P a b)(h2:Upn n P b c)(hl:Alz a<=Alz b):Upn n P a c:=by
 refine⟨?_,fun j h=>?_⟩
 .rcases h2.le with q|q
  .omega
  .omega
 .rcases h2.sec j h with⟨d,g⟩|⟨d,g⟩|q
  .rcases h1.sec j d with⟨f,e⟩|⟨f,e⟩|r
   .grind
   .grind
   .grind
  .grind
  .grind
def Upn.imp{n:Y}{P Q:Y->BM->Prop}{a b:BM}(h:Upn n P a b)(hi:∀j t,P j t->Q j t):Upn n Q a b:=
 ⟨h.le,fun j hj=>(h.sec j hj).imp id Bf⟩
def Wr.cons{c:Ch}{a:Ae Ch}(h:Wr (c::a)):Wr a:=fun d e=>h d Bf
def YH(n:Y):∀(cs:Ae Ch) (bs:Ae Ar) (s:BM),Wr cs->Alz s%512=0->Upn n (CP cs) s (DM cs bs s)/\Alz s<=Alz (DM cs bs s)
 |[],_,s,_,_=>⟨Upn.refl _ _ _,Bq _⟩
 |c::cs,[],s,_,_=>⟨Upn.refl _ _ _,Bq _⟩
 |c::cs,b::bs,s,h,hm=>by
  obtain⟨i,t,rfl,ht⟩:=h c Bh;show Upn n _ s (DM _ bs _)/\Alz s<=Alz (DM cs _ _);cases b with
  |false=>
   obtain⟨u,l⟩:=YH n cs bs s h.cons hm;exact⟨u.imp fun j t q=>Gl _ q,l⟩
  |true=>
   obtain⟨u,l⟩:=YH n cs bs ((Ch.write i t).ap s) h.cons (Vj ht hm);have hl:Alz s<=Alz ((Ch.write i t).ap s):=by rw[Nw ht hm];omega
   exact⟨((Wk hm ht n).imp fun j x q=>by rw[CP,Cp]at q;rw[CP,q];simp).trans (u.imp fun j t q=>Gl _ q) hl,Bf⟩
def Xu(n:Y):∀(cs:Ae Ch) (s:BM),Wr cs->Alz s%512=0->Upn n (CP cs) s (GH cs s)/\Alz s<=Alz (GH cs s)
 |[],s,_,_=>⟨Upn.refl _ _ _,Bq _⟩
 |c::cs,s,h,hm=>by
  obtain⟨i,t,rfl,ht⟩:=h c Bh;obtain⟨u,l⟩:=Xu n cs ((Ch.write i t).ap s) h.cons (Vj ht hm);have hl:Alz s<=Alz ((Ch.write i t).ap s):=by rw[Nw ht hm];omega
  exact⟨((Wk hm ht n).imp fun j x q=>by rw[CP,Cp]at q;rw[CP,q];simp).trans (u.imp fun j t q=>Gl _ q) hl,BA hl l⟩
def eF:∀(cs:Ae Ch) (s:BM),Wr cs->Alz s%512=0->(∀j t t',CP cs j t->CP cs j t'->t=t')->∀j t,CP cs j t->(j+1)*512<=Alz (GH cs s)/\BS (GH cs s) j=t
 |[],s,_,_,_,j,t,h=>by cases h
 |c::cs,s,h,hm,hu,j,t,hj=>by
  obtain⟨i,x,rfl,hx⟩:=h c Bh;have hm2:=Vj (i:=i) hx hm;have hu2:∀j t t',CP _ j t->CP _ j _->t=t':=fun j t t' a b=>hu j t _ (Gl _ a) (Gl _ b);show(j+1)*512<=Alz (GH _ ((Ch.write i x).ap s))/\BS (GH _ ((Ch.write i x).ap s)) j=t;by_cases f:∃t',CP cs j t'
  .obtain⟨t',d⟩:=f;have e:=hu j t _ hj (Gl _ d);rw[e];exact eF _ _ h.cons hm2 hu2 j _ d
  .rcases List.mem_cons.1 hj with q|q
   .injection q with g k;subst g k;have n:=Nw (i:=j) hx hm;obtain⟨u,l⟩:=Xu 0 cs _ h.cons hm2;have m:(j+1)*512<=Alz (GH cs ((Ch.write j t).ap s)):=X;refine⟨m,?_⟩;rcases u.sec j X with⟨g,k⟩|⟨g,_⟩|q
    .rw[k,pJ hm hx g,Aj Z]
    .omega
    .grind
   .exact AH ⟨t,q⟩ f
def JV:∀(T:Ae BM) (i j:Y) (t:BM),CP (chs i T) j t↔i<=j/\j<i+Alz T/\T.getD (j-i) []=t
 |[],i,j,t=>⟨fun h=>(by cases h),Bf⟩
 |x::T,i,j,t=>by
  have ih:=JV T (i+1) j t;rw[CF];constructor
  .intro h;rcases List.mem_cons.1 h with q|q
   .grind
   .obtain⟨a,b,c⟩:=ih.1 q;grind
  .rintro⟨a,b,c⟩;by_cases q:j=i
   .subst q;rw[EY]at c;exact List.mem_cons.2 (.inl Bf)
   .refine Gl _ (ih.2 ⟨X,X,?_⟩);grind
def NQ:∀(T:Ae BM) (i:Y),(∀t∈T,Alz t=512)->Wr (chs i T)
 |[],_,_,c,h=>by cases h
 |x::T,i,hT,c,h=>by
  rcases List.mem_cons.1 h with q|q
  .grind
  .exact NQ T _ Bf c q
def Qr{T:Ae BM}{i cap:Y}(f:∀t∈T,Alz t=512)(hi:i+Alz T<=cap):∀c∈chs i T,c.ok cap:=fun c d=>by
 obtain⟨j,t,rfl,e⟩:=NQ T i f c d;obtain⟨a,b,_⟩:=(JV T i j t).1 d;exact⟨X,e⟩
def XN{T:Ae BM}{i:Y}:∀j t t',CP (chs i T) j t->CP (chs i T) j t'->t=t':=fun j t t' a b=>((JV T i j t).1 a).2.2.symm.trans ((JV T i j t').1 b).2.2
def Wr.take{a:Ae Ch}(h:Wr a)(j:Y):Wr (a.take j):=fun c d=>h c Bf
def xW{cs:Ae Ch}{k:Y}(j:Y)(t:BM)(h:CP (cs.take k) j t):CP cs j t:=Kn h
def Sy.up{D:Dv}(h:Cat.Rest D){a:Ae Ch}{n:Y}{r:Dv×Y}(b:Sy D a n r)(d:Wr a)(m:Y):Upn m (CP a) D.now r.1.now/\Alz D.now<=Alz r.1.now:=by
 rcases b.out with⟨_,_,e⟩|⟨_,_,_,_,j,e⟩
 .rw[e];exact Xu m _ _ d h.ok.nowM
 .rw[e];obtain⟨u,l⟩:=YH m (a.take j) D.keep D.now (d.take j) h.ok.nowM;exact⟨u.imp xW,l⟩
def Sy.has{D:Dv}(h:Cat.Rest D){d:Ae Ch}{n:Y}{r:Dv×Y}(b:Sy D d n r)(f:Wr d)(h0:r.2=0)(g:∀j t t',CP d j t->CP d j t'->t=t'){j:Y}{t:BM}(i:CP d j t):(j+1)*512<=Alz r.1.now/\BS r.1.now j=t:=by
 rcases b.out with⟨_,_,e⟩|⟨a,_⟩
 .rw[e];exact eF _ _ f h.ok.nowM g j t i
 .omega
def Is(g:Y)(t:BM):Prop:=(Cu t).2≠0∨(Cu t).1.gen<(g:H)
def Vh(g:Y):Is g (EQ 512):=.inl Ake
def Is.mono{g h:Y}{t:BM}(q:Is g t)(hg:g<=h):Is h t:=q.imp id X
section
variable{n g h:Y}{P:Y->BM->Prop}{s s':BM}{j:Y}
def Upn.keep(u:Upn n P s s')(h1:j<Alz s/512)(h2:j<n)(d:∀t,¬P j t):j<Alz s'/512/\BS s' j=BS s j:=by
 have a:j<Alz s'/512:=by rcases u.le with q|q<;>omega
 refine⟨a,?_⟩;rcases u.sec j a with q|⟨q,_⟩|q
 .grind
 .omega
 .grind
def Upn.G(u:Upn n P s s')(h1:j<Alz s/512->Is g (BS s j))(d:∀t,¬P j t)(a:j<Alz s'/512):Is g (BS s' j):=by
 rcases u.sec j a with q|⟨_,q⟩|q
 .grind
 .rw[q];exact Vh g
 .grind
end
structure Slot(s:BM)(cap g:Y)(l:Ae M):Prop where
 has:(g%2*5+5)*512<=Alz s
 sec:∀i,i<5->BS s (g%2*5+i)=Jp g (Cf l) i
 gen:g<=4611686018427387904
 chk:OkC l cap
 sums:FW l
def QP{l:Ae M}{c:H}(h:OkC l c){g:Y}(d:g<=4611686018427387904):OkE g l:=by
 have e:=h.a.room;refine⟨X,X,h.len,h.may,h.P,⟨Bh,fun x a=>?_,h.a.far⟩⟩;have:=h.a.fit x a;unfold HT at this ⊢;omega
def Slot.okE{s:BM}{cap g:Y}{l:Ae M}(h:Slot s cap g l):OkE g l:=QP h.chk h.gen
def Slot.Alm{D:Dv}{g:Y}{l:Ae M}(h:Slot D.now D.cap g l):DS D (g%2)=J ((g:H),l):=by
 have a:Cv D (g%2)=EM g (Cf l):=by
  refine Kl fun i k=>?_;exact h.sec i Bf
 have d:=ux h.sums (Sx h.okE);have e:=h.has;have f:Right D (g%2):=⟨by unfold Fi;omega,by rw[a,d],Bf,by rw[a,d];exact h.chk⟩;unfold DS;grind
def Sa(s:BM)(g:Y):Prop:=∀i,i<5->(1-g%2)*5+i<Alz s/512->Is g (BS s ((1-g%2)*5+i))
def Xl(s:BM)(g:Y)(ms:Ae M):Prop:=∀i,i<5->(1-g%2)*5+i<Alz s/512->Is g (BS s ((1-g%2)*5+i))∨BS s ((1-g%2)*5+i)=Jp ((g+1:Y):H) (Cf ms) i
def Aaj{D:Dv}{g:Y}{f:Ae M}(h:Xl D.now g f)(t:g+1<=4611686018427387904)(w:OkC f D.cap)(x:FW f):
 DS D (1-g%2)=Aa∨(∃b,DS D (1-g%2)=J b/\b.1<(g:H))∨(DS D (1-g%2)=J (((g+1:Y):H),f)/\Slot D.now D.cap (g+1) f):=by
 obtain⟨k,hk⟩:∃k,k=1-g%2:=⟨_,Z⟩;unfold Xl at h;rw[<-hk]at h ⊢;rcases NX (Right D k)with hr|hr
 .right
  have v:OkD (Cv D k):=IM fun z=>by
   have:=hr.dec;rw[Sv z]at this;grind
  have A:=hr.has;unfold Fi at A;have r:=VP D k
  have o:∀i (a:i<5),(Cu (BS D.now (k*5+i))).2=0/\(Cu (BS D.now (k*5+i))).1.gen=Ef (Cv D k):=fun i a=>by
   have q:=ad v (i:=i) (by rw[r];exact a);have e:(Cv D k)[i]'(by rw[r];exact a)=BS D.now (k*5+i):=by simp[Cv]
   grind
  have G:=QP w t;by_cases d:∃i,i<5/\Is g (BS D.now (k*5+i))
  .left;obtain⟨i,a,l⟩:=d;obtain⟨E,C⟩:=o i a
   have B:Ef (Cv D k)<(g:H):=by
    rcases l with l|l
    .omega
    .omega
   refine⟨((CC (Cv D k)).1,(CC (Cv D k)).2.1),?_,?_⟩
   .unfold DS;grind
   .show(CC (Cv D k)).1<_;rw[Qu v];omega
  .right;have p:∀i,i<5->BS D.now (k*5+i)=Jp ((g+1:Y):H) (Cf f) i:=fun i a=>(h i a X).resolve_left fun q=>d ⟨i,a,q⟩;have y:(g+1)%2=k:=X;have m:Slot D.now D.cap (g+1) f:=⟨X,fun i a=>by grind,t,w,x⟩;have:=m.Alm;grind
 .left;unfold DS;grind
def Uc(s:BM)(g:Y):Prop:=∀k,k<20->10+k<Alz s/512->Is g (BS s (10+k))
structure Clean(s:BM)(g:Y)(ls:Ae (Ae Nt))(nx:Y):Prop where
 good:Ob ls
 tot:Du ls=nx
 le:nx<=20
 has:nx=0∨(10+nx)*512<=Alz s
 sec:∀k,k<nx->BS s (10+k)=(Dy g 0 ls).getD k []
 G:∀k,nx<=k->k<20->10+k<Alz s/512->Is g (BS s (10+k))
def aM{gen:H}{rd:Y->BM}{m f i:Y}{op:Ae Nt}{out:Ae (Ae Nt)}{b:Y}(h:(Cu (rd i)).2≠0∨(Cu (rd i)).1.gen≠gen):CK gen rd m f i op out b=(out,b):=by
 cases f with
 |zero=>rfl
 |succ f=>
  rw[CK];grind
def Is.stop{g:Y}{t:BM}(h:Is g t):(Cu t).2≠0∨(Cu t).1.gen≠(g:H):=h.imp id X
def Clean.front{s:BM}{g nx:Y}{a:Ae (Ae Nt)}(h:Clean s g a nx)(m:g<=4611686018427387904):Wal.replay s g=CK g (fun i=>Wal.sec s (10+i)) (Ek s) (21-nx) nx [] a nx/\nx<=Ek s:=by
 have l:nx<=Ek s:=by
  have p:=h.le;unfold Ek;rcases h.has with q|q<;>omega
 have d:Ek s<=20:=Nat.min_le_left _ _;have f:=aJ (rd:=fun i=>Wal.sec s _) m d _ (21-nx) 0 [] 0 h.good (fun k o=>by rw[EE];exact h.sec k (by rw[<-h.tot];omega)) (by rw[h.tot,EE];omega);rw[h.tot,show 21-nx+nx=21 by omega,EE,EW]at f;refine⟨f.trans ?_,l⟩;by_cases e:a=[]
 .subst e;rw[Aj Z,<-h.tot];rfl
 .grind
def Clean.replay{s:BM}{g nx:Y}{a:Ae (Ae Nt)}(h:Clean s g a nx)(d:g<=4611686018427387904):Wal.replay s g=(a,nx):=by
 rw[(h.front d).1];by_cases q:nx<Ek s
 .have e:=h.G nx X (by unfold Ek at q;omega) (by unfold Ek at q;omega);exact aM e.stop
 .exact aK X
end
section
open Pth Rec Srt Dsk Wal Cat Tar
structure At(s:BM)(a:Y)(t:BM):Prop where
 whole:Alz t%512=0
 pos:0<Alz t/512
 has:(a+Alz t/512)*512<=Alz s
 sec:∀k,k<Alz t/512->BS s (a+k)=BS t k
def Aib{s t:BM}{a b:Y}(n:Y):(a+n)*512<=Alz s->(b+n)*512<=Alz t->(∀k,k<n->BS s (a+k)=BS t (b+k))->(s.drop (a*512)).take (n*512)=(t.drop (b*512)).take (n*512):=by
 induction n with
 |zero=>
  simp
 |succ n ih=>
  intro i f h;have e:=i;have d:=f;have o:=VN s a n e;have j:=VN t b n d;grind
def At.now{s t:BM}{a:Y}(h:At s a t):(s.drop (a*512)).take (Alz t)=t:=by
 have f:=h.whole;have e:=Aib (t:=t) (b:=0) _ h.has X (fun k d=>by rw[EE];exact h.sec k d);grind
def At.of{s t:BM}{a:Y}(d:Alz t%512=0)(h0:0<Alz t/512)(f:(a+Alz t/512)*512<=Alz s)(h:(s.drop (a*512)).take (Alz t)=t):At s a t:=by
 refine⟨d,h0,f,fun k i=>?_⟩;have e:BS t k=(((s.drop (a*512)).take (Alz t)).drop (k*512)).take 512:=by rw[h];rfl
 rw[e,WK,WW,Gj,Hi X,show a*512+k*512=(a+k)*512 by omega];rfl
def At.up{n a:Y}{P:Y->BM->Prop}{s s' t:BM}(h:At s a t)(u:Upn n P s s')(j:a+Alz t/512<=n)(f:∀k,k<Alz t/512->∀y,¬P (a+k) y):At s' a t:=by
 have o:=h.has;have i:=h.pos;have d:=fun k e=>u.keep X X (f k e);have:=(d (Alz t/512-1) X).1;exact⟨h.whole,i,X,fun k e=>(d k e).2.trans (h.sec k e)⟩
def Stands.at_{D:Dv}{m:M}{x:En}(h:Stands D m x):At D.now m.start.toNat (BU x):=by
 have a:=KD h.fits;have f:=h.len;have d:=h.now;rw[f]at d;have e:=AF DQ d;rw[BW,CA]at e;exact At.of a.1 X X d
def Stands.of{D:Dv}{m:M}{x:En}(hf:Fits x)(h1:0<=m.start)(a:m.p=Ca x)(e:m.size=(Alz x.data:H))(i:m.sum=Ff x.data)(h:At D.now m.start.toNat (BU x)):Stands D m x:=by
 have f:=KD hf;have d:m.p.toNat*512=Alz (BU x):=by rw[a];unfold Ca;omega
 refine⟨hf,h1,by rw[a];omega,e,i,d,?_⟩;rw[d];exact h.now
def Stands.Alk{D:Dv}{m:M}{x:En}(h:Stands D m x):m.p=Ca x:=by
 have d:=h.len;have a:=h.p;unfold Ca;omega
def Wp(P:Y->BM->Prop)(x:Xt):Prop:=∀k:Y,x.1<=(k:H)->(k:H)<x.1+x.2->∀y,¬P k y
def Stands.up{D D':Dv}{m:M}{x:En}{n:Y}{P:Y->BM->Prop}(h:Stands D m x)(u:Upn n P D.now D'.now)(d:m.start+m.p<=n)(a:Wp P (m.start,m.p)):Stands D' m x:=by
 have e:=h.Alk;have i:=h.start;unfold Ca at e;refine Stands.of h.fits X h.Alk h.size h.sum (h.at_.up u X fun k f y=>a _ ?_ ?_ y)
 .omega
 .omega
inductive Fil(D:Dv):Ae M->Ae En->Prop
 |nil:Fil D [] []
 |cons {m:M} {x:En} {ms:Ae M} {xs:Ae En}:m.g=x.g->Stands D m x->Fil D ms xs->Fil D (m::ms) (x::xs)
section
variable{D D':Dv}{ms:Ae M}{fs:Ae En}
def Fil.imp(h:Fil D ms fs)(hi:∀m∈ms,∀x,Stands D m x->Stands D' m x):Fil D' ms fs:=by
 induction h with
 |nil=>exact .nil
 |cons h1 h2 _ ih=>exact .cons h1 Bf Bf
def Fil.same(h:Fil D ms fs)(e:D'.now=D.now):Fil D' ms fs:=
 h.imp fun m _ x q=>⟨q.fits,q.start,q.p,q.size,q.sum,q.len,by rw[e];exact q.now⟩
def Fil.up{n:Y}{P:Y->BM->Prop}(h:Fil D ms fs)(u:Upn n P D.now D'.now)(hn:∀m∈ms,m.start+m.p<=n)(hp:∀m∈ms,Wp P (m.start,m.p)):Fil D' ms fs:=
 h.imp fun m hm x q=>q.up u (hn m hm) (hp m hm)
def Fil.keys(h:Fil D ms fs):ms.map M.g=fs.map En.g:=by
 induction h with
 |nil=>rfl
 |cons h1 _ _ ih=>grind
def Fil.len(h:Fil D ms fs):Alz ms=Alz fs:=by
 have:=AF DQ h.keys;grind
def Fil.at_(h:Fil D ms fs):∀{i:Y} (hi:i<Alz ms) (hj:i<Alz fs),ms[i].g=fs[i].g/\Stands D ms[i] fs[i]:=by
 induction h with
 |nil=>simp
 |cons h1 h2 _ ih=>
  grind
def Fil.mem(h:Fil D ms fs){m:M}(hm:m∈ms):∃x∈fs,m.g=x.g/\Stands D m x:=by
 induction h with
 |nil=>grind
 |cons h1 h2 _ ih=>
  grind
def tI{α β:Type}{k1:α->BM}{k2:β->BM}{a e:α}{b d:β}(h:k1 a=k2 b)(f:k1 e=k2 d):Cg k1 a e=Cg k2 b d:=by
 unfold Cg;grind
def Fil.ins{m:M}{x:En}(h:Fil D ms fs)(h1:m.g=x.g)(h2:Stands D m x):Fil D (Cc M.g m ms) (Cc En.g x fs):=by
 induction h with
 |nil=>exact .cons h1 h2 .nil
 |cons a1 a2 a3 ih=>
  unfold Cc;rw[tI h1 a1];split
  .exact .cons h1 h2 (.cons a1 a2 a3)
  .split
   .exact .cons h1 h2 a3
   .exact .cons a1 a2 ih
def Fil.del(h:Fil D ms fs)(p:BM):Fil D (ms.filter fun m=>decide (m.g≠p)) (fs.filter fun x=>decide (x.g≠p)):=by
 induction h with
 |nil=>exact .nil
 |cons a1 a2 _ ih=>
  rw[LU,LU,a1];split
  .exact .cons a1 a2 ih
  .omega
end
section
variable{s s':BM}{cap g n nx:Y}{l:Ae M}{ls:Ae (Ae Nt)}{P:Y->BM->Prop}
def Slot.up(h:Slot s cap g l)(u:Upn n P s s')(f:10<=n)(e:∀j,j<10->∀t,¬P j t):Slot s' cap g l:=by
 have o:=h.has;have k:∀i,i<5->g%2*5+i<Alz s'/512/\BS _ _=BS s _:=fun i a=>u.keep X X Bf;have d:=(k 4 Bh).1;exact⟨X,fun i a=>(k i a).2.trans (h.sec i a),h.gen,h.chk,h.sums⟩
def Sa.up(h:Sa s g)(u:Upn n P s s')(e:∀j,j<10->∀t,P j t->Is g t):Sa s' g:=fun i d a=>by
 rcases u.sec _ a with q|⟨_,q⟩|q
 .rw[q.2];exact h i d q.1
 .rw[q];exact Vh g
 .grind
def Clean.up(h:Clean s g ls nx)(u:Upn n P s s')(q:30<=n)(p:∀j,10<=j->j<30->∀t,¬P j t):Clean s' g ls nx:=by
 have v:=h.le;have r:=h.has;have a:∀k,k<nx->10+k<Alz s'/512/\BS _ _=BS s _:=fun k d=>u.keep X X Bf;refine⟨h.good,h.tot,h.le,?_,fun k d=>(a k d).2.trans (h.sec k d),fun k o i f=>u.G (h.G k o i) Bf f⟩;rcases JF nx with e|e
 .omega
 .have:=(a (nx-1) X).1;omega
end
structure Arc(D:Dv)(g nx:Y)(ms:Ae M):Prop where
 rest:Cat.Rest D
 cap:31<=D.cap
 made:∃ms0 ls,Slot D.now D.cap g ms0/\Clean D.now g ls nx/\ms=DI ms0 ls/\∀i,i<=Alz ls->OkC (DI ms0 (ls.take i)) D.cap/\FW (DI ms0 (ls.take i))
 oth:Sa D.now g
section
variable{D D':Dv}{g nx m:Y}{ms:Ae M}{fs:Ae En}{P:Y->BM->Prop}
def Arc.ok(h:Arc D g nx ms):OkC ms D.cap/\FW ms:=by
 obtain⟨a,ls,_,_,rfl,d⟩:=h.made;have:=d _ (Bq _);grind
def Arc.gle(h:Arc D g nx ms):g<=4611686018427387904/\nx<=20:=by
 obtain⟨a,ls,e,d,_,_⟩:=h.made;exact⟨e.gen,d.le⟩
def Arc.up(h:Arc D g nx ms)(e:Cat.Rest D')(a:D'.cap=D.cap)(u:Upn m P D.now D'.now)(hm:30<=m)(o:∀j t,P j t->30<=j):Arc D' g nx ms:=by
 obtain⟨d,ls,k,i,f,p⟩:=h.made;exact⟨e,a▸h.cap,⟨_,_,by rw[a];exact k.up u X Bf,i.up u hm Bf,f,Bf⟩,h.oth.up u Bf⟩
def aU{l:Ae M}(h:Cat.Rest D)(d:OkE g l)(e:OkC l D.cap)(a:10<=D.cap):Sy D (chs (g%2*5) (EM g (Cf l))) 6 (CO D g l):=by
 rw[nt ⟨d,e⟩];have b:=Bt.writes (EM g (Cf l)) (g%2*5) h.dead (Ti _) (by rw[IG];omega);have:=Sy.of h b;assumption
def Sy.zero{a:Ae Ch}{n:Y}{r:Dv×Y}(b:Sy D a n r)(d:D.at_=0):r.2=0:=by
 rcases b.out with⟨q,_⟩|⟨_,q,_⟩
 .omega
 .omega
def sy_at{cs:Ae Ch}{n:Y}{r:Dv×Y}(b:Sy D cs n r)(ha:D.at_=0):r.1.at_=0:=Nat.le_zero.1 (ha▸b.at_)
def Ri{l:Ae M}{i j:Y}{t:BM}(h:CP (chs i (EM g (Cf l))) j t):i<=j/\j<i+5:=by
 obtain⟨a,b,_⟩:=(JV _ _ _ _).1 h;rw[IG]at b;omega
def jM{l:Ae M}{i k:Y}(h:k<5):CP (chs i (EM g (Cf l))) (i+k) (Jp g (Cf l) k):=by
 refine(JV _ _ _ _).2 ⟨X,by rw[IG];omega,?_⟩;rw[Ko,Cd,aX _ _ h];rfl
def sj{ns:Ae Nt}(h:Cat.Rest D)(j:31<=D.cap)(o:g<=4611686018427387904)(k:ns≠[])(a:Wal.Good ns)(i:nx+Alz ns+1<=20):
 Sy D (chs (10+nx) (txs g nx ns)) (Alz ns+2) ((Fw D (g:H) (nx:H) ns).1,(Fw D (g:H) (nx:H) ns).2.2)/\((Fw D (g:H) (nx:H) ns).2.2=0->(Fw D (g:H) (nx:H) ns).2.1=((nx+Alz ns+1:Y):H)):=by
 have d:Alz ns≠0:=Bf;have f:=fun n d=>(a n d).1;have b:=Bt.writes (txs g nx _) (10+nx) h.dead (We f) (by rw[IJ];omega);rw[IJ]at b;have q:=Sy.of h b;obtain⟨r,hr⟩:∃r,r=writes D (10+nx) (txs g nx ns):=Bh;have e:Fw D g nx ns=if r.2=0 then(if r.1.w.2=0 then(r.1.w.1,(nx:H)+Alz ns+1,0)else(r.1.w.1,0,r.1.w.2))else(r.1,0,r.2):=hr▸eG (by unfold Iv;omega) f;grind
def Ru{ns:Ae Nt}{i j:Y}{t:BM}(h:CP (chs i (txs g nx ns)) j t):i<=j/\j<i+(Alz ns+1):=by
 obtain⟨a,b,_⟩:=(JV _ _ _ _).1 h;rw[IJ]at b;omega
def Arc.Alw{ns:Ae Nt}(h:Arc D g nx ms)(L:ns≠[])(e:Wal.Good ns)(p:nx+Alz ns+1<=20)(K:OkC (Dm ms ns) D.cap)(y:FW (Dm ms ns)){n:Y}{r:Dv×Y}(b:Sy D (chs (10+nx) (txs g nx ns)) n r)(h0:r.2=0):Arc r.1 g (nx+Alz ns+1) (Dm ms ns)/\Upn 4096 (fun j _=>j<30) D.now r.1.now:=by
 have w:=h.rest;have B:=h.cap;have Q:=fun n N=>(e n N).1;have C:∀t∈txs g nx _,Alz t=512:=We Q;have x:=NQ _ (10+nx) C;have o:∀c∈chs (10+nx) _,c.ok D.cap:=Qr C (by rw[IJ];omega);obtain⟨I,_⟩:=b.live w o h0;obtain⟨u,A⟩:=b.up w x 4096;have G:∀k,k<Alz ns+1->(10+nx+k+1)*512<=Alz r.1.now/\BS _ _=(txs g nx ns).getD k []:=fun k S=>b.has w x h0 XN ((JV _ _ _ _).2 ⟨X,by rw[IJ];omega,Bh⟩);obtain⟨v,ls,a1,d,W,a4⟩:=h.made;have E:Upn 4096 (fun j _=>j<30) _ _:=u.imp fun j t q=>by have:=Ru q;omega
 have np:∀j,j<10+nx->∀t,¬CP (chs (10+nx) (txs g nx ns)) j t:=fun j hj t q=>by have:=Ru q;omega
 have a:DI v (ls++[ns])=Dm ms ns:=by rw[YO,<-W]
 have f:Du (ls++[ns])=nx+Alz ns+1:=by rw[<-d.tot];simp[Du];omega
 refine⟨⟨I,by rw[b.cap];omega,⟨_,_,by rw[b.cap];exact a1.up u Bh Bf,⟨?_,f,p,?_,?_,?_⟩,a.symm,?_⟩,h.oth.up u Bf⟩,E⟩
 .intro l A;rcases CW.1 A with q|q
  .exact d.good l q
  .grind
 .have q:=(G (Alz ns) X).1;omega
 .intro k S;rw[kf,d.tot,EE,Cd];by_cases q:k<nx
  .rw[FR (by rw[Vd,d.tot];omega),<-Cd];have h9:=d.has;exact(u.keep X X Bf).2.trans (d.sec k q)
  .rw[Io (by rw[Vd,d.tot];omega),Vd,d.tot,<-Cd];grind
 .intro k h2 V T;exact u.G (d.G k X V) (fun t q=>by have:=Ru q;omega) T
 .intro i hi;rw[b.cap];by_cases q:i<=Alz ls
  .grind
  .rw[Dh Bf,a];grind
end
def Pw(l:Ae M)(n:Nt):Ae M:=if n.kind=1 then Cc M.g n.mem l else if n.kind=2 then l.filter (fun y=>decide (y.g≠n.mem.g))else l
def ym{m:BM->Av M}{a:Ae M}(h:IsMap M.g m a)(n:Nt):IsMap M.g (NL m n) (Pw a n):=by
 unfold NL Pw;split
 .exact h.put _ _
 .split
  .exact h.del _ _
  .exact h
def Nj{l:Ae M}(h:De M.g l)(ns:Ae Nt):Dm l ns=ns.foldl Pw l:=by
 refine Uv ?_
 have d:∀(ns:Ae _) (m:BM->Av M) (a:Ae M),IsMap M.g m a->IsMap M.g (ns.foldl _ m) (ns.foldl _ a):=fun ns=>by
  induction ns with
  |nil=>simp
  |cons n ns ih=>exact fun m a q=>ih _ _ (ym q n)
 exact d _ _ _ (jT _ h)
def ZD{α:Type}(key:α->BM)(x:α):∀l:Ae α,(Cc key x l).map key=Cc id (key x) (l.map key)
 |[]=>rfl
 |y::l=>by
  have e:Cg key x y=Cg id _ _:=rfl;rw[Cm];unfold Cc;rw[e];split
  .rfl
  .split
   .rfl
   .rw[Cm,ZD]
def SF(ks l:Ae BM):Ae BM:=ks.foldl (fun l k=>Cc id k l) l
def Tc{α β:Type}{k1:α->BM}{k2:β->BM}{a:Ae α}{b:Ae β}(e:a.map k1=b.map k2)(h:De k1 a):De k2 b:=by
 have d:(a.map _).Pairwise (fun x y=>Gd x y=-1):=LW.2 h;rw[e]at d;exact LW.1 d
def jZ:∀(ks l:Ae BM),De id l->(∀k∈ks,k∈SF ks l)/\∀y∈l,y∈SF ks l
 |[],l,_=>⟨Bh,fun y hy=>hy⟩
 |a::ks,l,h=>by
  have h2:=MI _ a h;obtain⟨i1,i2⟩:=jZ ks _ h2;have hm:=Mv id a h;refine⟨fun k hk=>?_,fun y hy=>i2 _ ((hm y).2 ?_)⟩
  .rcases List.mem_cons.1 hk with rfl|q
   .exact i2 _ ((hm _).2 (.inl Z))
   .exact i1 k q
  .grind
def ZS{α:Type}[DecidableEq α]:∀(a b:Ae α),a.Nodup->(∀x∈a,x∈b)->Alz a<=Alz b
 |[],_,_,_=>BC _
 |x::a,b,h,hs=>by
  rw[TX]at h;have ih:=ZS a (b.erase x) h.2 Bf;grind
def aN{α:Type}{key:α->BM}{l:Ae α}(h:De key l){x y:α}(hx:x∈l)(a:y∈l)(e:key x=key y):x=y:=by
 have q:=jT _ h;have f:=(q.mem x).1 hx;have d:=(q.mem y).1 a;grind
def jP{α:Type}{key:α->BM}{l:Ae α}(h:De key l){x:α}(hx:x∈l):Cc key x l=l:=
 aO key (MI key x h) h fun z=>(Mv key x h z).trans ⟨Bf,fun q=>by
  by_cases e:key z=key x
  .exact .inl (aN h q hx e)
  .grind⟩
def Aha(x:En):Ht x=Jr En.g x:=by
 funext r y;unfold Ht Jr;have e:Cg _ x y=Gd x.g _:=rfl;grind
def Ajk{l:Ae En}(h:De En.g l)(x:En):Db l x=Cc En.g x l:=by
 rw[<-xZ _ h];unfold Db EP insF SB;rw[Aha]
def pD:∀(xs l:Ae En),De En.g l->xs.foldl Db l=xs.foldl (fun f x=>Cc En.g x f) l/\De En.g (xs.foldl Db l)
 |[],l,h=>⟨Z,h⟩
 |x::xs,l,h=>by
  have e:=Ajk h x;have h2:De En.g (Db l x):=e▸MI En.g x h;obtain⟨i1,i2⟩:=pD xs _ h2;grind
def Abw{α:Type}{R:α->α->Prop}(d:∀a b,R a b->R b a){l:Ae α}(h:l.Pairwise R):∀a∈l,∀b∈l,a=b∨R a b:=by
 induction h with
 |nil=>simp
 |cons h1 _ ih=>
  grind
def lI{l l':Ae Xt}{cap:H}(h:OkX l cap)(hs:l'.Sublist l):OkX l' cap:=⟨h.room,fun x hx=>h.fit x Bf,h.far.sublist hs⟩
def jO{α:Type}{key:α->BM}(x:α){l:Ae α}(h:De key l):(Cc key x l).Perm (x::l.filter fun y=>decide (key y≠key x)):=by
 have d:∀{l:Ae _},De _ l->l.Nodup:=fun h=>h.imp fun {a b} q e=>by
  rw[(JK _ a b).2 (AF key e)]at q;omega
 have f:=d (MI _ x h)
 have e:∀z,z∈Cc _ x l↔z∈x::l.filter fun y=>decide (key y≠key x):=fun z=>by
  rw[Mv _ x h z];simp
 classical
 grind
def YE{m:M}{l:Ae M}{r:Ae Xt}{cap:H}(hl:De M.g l)(h:OkX (BY l++(m.start,m.p)::r) cap):OkX (BY (Cc M.g m l)++r) cap:=by
 have d:(BY _++r).Perm ((m.start,m.p)::(BY _++r)):=((jO m hl).map _).append_right r;rw[SP d];have a:((m.start,m.p)::(BY l++r)).Perm (BY l++(m.start,m.p)::r):=Bf;rw[<-SP a]at h;exact lI h (List.Sublist.cons_cons _ (List.Sublist.append (List.Sublist.map _ Bh) Bh))
def vx{l:Ae M}{cap:H}(h:OkX (BY l) cap)(p:BM):OkX (BY (l.filter fun y=>decide (y.g≠p))) cap:=lI h (List.Sublist.map _ List.filter_sublist)
def mz(z:Xt×En):M:=⟨z.2.g,z.1.1,z.1.2,(Alz z.2.data:H),Ff z.2.data⟩
def cF:∀(l:Ae En) (ps:Ae Xt),HL DJ l ps=(ps.zip l).map fun z=>⟨1,mz z⟩
 |[],ps=>by simp
 |x::l,[]=>rfl
 |x::l,p::ps=>by
  rw[List.zipWith_cons_cons,WY,Cm,cF];rfl
def YQ(zs:Ae (Xt×En))(l:Ae M):(zs.map fun z=>(⟨1,mz z⟩:Nt)).foldl Pw l=zs.foldl (fun l z=>Cc M.g (mz z) l) l:=by
 rw[WN];rfl
def mB{D:Dv}{cap:H}:∀(zs:Ae (Xt×En)) (ms:Ae M) (fs:Ae En),De M.g ms->OkX (BY ms++zs.map Prod.fst) cap->Fil D ms fs->(∀z∈zs,Stands D (mz z) z.2)->
 De M.g (zs.foldl (fun l z=>Cc M.g (mz z) l) ms)/\OkX (BY (zs.foldl (fun l z=>Cc M.g (mz z) l) ms)) cap/\Fil D (zs.foldl (fun l z=>Cc M.g (mz z) l) ms) ((zs.map Sb).foldl (fun f x=>Cc En.g x f) fs)/\
  ∀m∈zs.foldl (fun l z=>Cc M.g (mz z) l) ms,m∈ms∨∃z∈zs,m=mz z
 |[],ms,fs,h1,h2,h3,_=>⟨h1,Bf,h3,Bh⟩
 |z::zs,ms,fs,h1,h2,h3,h4=>by
  obtain⟨i1,i2,i3,i4⟩:=mB (D:=D) (cap:=cap) zs _ _ (MI M.g (mz z) h1) (YE (m:=mz z) h1 h2) (h3.ins (m:=mz z) (x:=z.2) Z Bf) Bf;refine⟨i1,i2,i3,fun m hm=>?_⟩;rcases i4 m hm with q|⟨y,hy,e⟩
  .rcases(Mv _ _ h1 m).1 q with q|q
   .grind
   .grind
  .grind
def aD:∀(zs:Ae M) (ms:Ae M),(zs.foldl (fun l m=>Cc M.g m l) ms).map M.g=SF (zs.map M.g) (ms.map M.g)
 |[],ms=>rfl
 |z::zs,ms=>by
  rw[Lf,aD,ZD];rfl
end
end Go.Proofs.YtkmlafmjaeeanaaGreatDoor
