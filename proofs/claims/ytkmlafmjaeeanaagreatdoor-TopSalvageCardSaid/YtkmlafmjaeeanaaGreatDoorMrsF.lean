/- TopSalvage, part F: the vault where writes fall, what is salvaged, and the walk of the statement. -/
import Derived.Test.YtkmlafmjaeeanaaGreatDoorMrsE
set_option linter.all false
set_option maxHeartbeats 2000000
set_option maxRecDepth 20000
open Go Go.RowKit Go.Proofs.Tryz
open _root_ renaming rfl→Z,Nat→Y,Int→H,List→Ae,if_neg→Ag,if_pos→Aj,Array→Ap,Bool→Ar,Option→Av,trivial→Ay,congrArg→AF,absurd→AH,UInt8→AI,String→AJ,decide_eq_true→AM,decide_eq_false→AN,of_decide_eq_true→AO,dif_pos→AQ,of_decide_eq_false→AR
open _root_.Array renaming replicate→Jv
open _root_.Bool renaming true→Af,false→Ai
open _root_.Go renaming World→Ad,Value→Ah,TypeId→Aw,Addr→AB,Program→AC,Operand→AD,Act→AE,Oper→AG,IntKind→AK,Code→AL,Exit→AP
open _root_.List renaming range→BE,replicate→BH,length→DQ,Pairwise→HK,zipWith→HL,cons→RM,length→Alz
open _root_.Nat renaming blt→BK,beq→JE,strongRecOn→RY,reducePow→Xe
open _root_.Option renaming some→J,none→Aa
open _root_.Prod renaming snd→Sb
open Go.Proofs.Tryz renaming prog→eD
namespace Go.Proofs.YtkmlafmjaeeanaaGreatDoor
section
open Pth Rec Srt Dsk Wal Cat
def Eh(D:Dv):Dv:={ D with dead:=Ai }
def Gone.up{D:Dv}(h:Gone D):Cat.Rest (Eh D):=⟨⟨h.ok.cap,h.ok.kept,h.ok.now,h.ok.keptM,h.ok.nowM,h.ok.pend⟩,Z,h.pend,h.kept⟩
def lP{D:Dv}{g:Y}(h:Sa D.now g):DS D (1-g%2)=Aa∨∃b,DS D (1-g%2)=J b/\b.1<(g:H):=by
 obtain⟨k,hk⟩:∃k,k=1-g%2:=⟨_,Z⟩;unfold Sa at h;rw[<-hk]at h ⊢;by_cases d:Right D k
 .right
  have j:OkD (Cv D k):=IM fun z=>by
   have:=d.dec;rw[Sv z]at this;cases this
  have n:=d.has;unfold Fi at n;have f:=VP D k;have q:=ad j (i:=0) (by rw[f];decide);have e:(Cv D k)[0]'(by rw[f];decide)=BS D.now (k*5+0):=by simp[Cv]
  rw[e]at q
  have l:Ef (Cv D k)<(g:H):=by
   rcases h 0 Bc X with a|a
   .exact AH q.2.1 a
   .rw[q.2.2.2.1]at a;exact a
  refine⟨((CC (Cv D k)).1,(CC (Cv D k)).2.1),?_,?_⟩
  .unfold DS;rw[Aj d]
  .show(CC (Cv D k)).1<_;rw[Qu j];exact l
 .left;unfold DS;rw[Ag d]
structure Can(D:Dv)(g:Y)(ms:Ae M):Prop where
 rest:Cat.Rest D
 cap:31<=D.cap
 made:∃ms0 ls nx,Slot D.now D.cap g ms0/\Wal.replay D.now g=(ls,nx)/\Ob ls/\Du ls<=20/\ms=DI ms0 ls/\∀i,i<=Alz ls->OkC (DI ms0 (ls.take i)) D.cap/\FW (DI ms0 (ls.take i))
 oth:DS D (1-g%2)=Aa∨∃b,DS D (1-g%2)=J b/\b.1<(g:H)
 log:Uc D.now (g+1)
section
variable{D D':Dv}{g nx m:Y}{ms:Ae M}{P:Y->BM->Prop}
def Can.ok(h:Can D g ms):OkC ms D.cap/\FW ms:=by
 obtain⟨a,e,_,_,_,_,_,rfl,d⟩:=h.made;have:=d _ (Bq _);rwa[Dh (Bq _)]at this
def Clean.Alh{s:BM}{a:Ae (Ae Nt)}(h:Clean s g a nx)(f:g<=4611686018427387904):Uc s (g+1):=fun k d e=>by
 by_cases q:k<nx
 .refine .inr ?_;have t:=h.tot;rw[h.sec k q,Zz (g:=g) a 0 (by have:=h.le;omega) f h.good k X];omega
 .exact(h.G k X d e).mono (PY g)
def Arc.can(h:Arc D g nx ms):Can D g ms:=by
 obtain⟨d,f,e,a,j,i⟩:=h.made;exact⟨h.rest,h.cap,⟨d,f,nx,e,a.replay e.gen,a.good,by rw[a.tot];exact a.le,j,i⟩,lP h.oth,a.Alh e.gen⟩
def Can.saved(h:Can D g ms)(N:g+1<=4611686018427387904){n:Y}{r:Dv×Y}(b:Sy D (chs ((g+1)%2*5) (EM ((g+1:Y):H) (Cf ms))) n r)(h0:r.2=0):Arc r.1 (g+1) 0 ms/\Upn 4096 (fun j _=>j<10) D.now r.1.now:=by
 have x:=h.rest;have f:=h.cap;have G:∀t∈EM ((g+1:Y):H) (Cf ms),Alz t=512:=Ti _;have B:=NQ _ ((g+1)%2*5) G;have w:∀c∈chs ((g+1)%2*5) (EM ((g+1:Y):H) (Cf ms)),c.ok D.cap:=Qr G (by rw[IG];omega);obtain⟨L,_⟩:=b.live x w h0;obtain⟨u,E⟩:=b.up x B 4096;have C:∀k,k<5->((g+1)%2*5+k+1)*512<=Alz r.1.now/\BS r.1.now ((g+1)%2*5+k)=Jp ((g+1:Y):H) (Cf ms) k:=fun k a=>b.has x B h0 XN (jM a);obtain⟨v,S,nx,I,_⟩:=h.made;obtain⟨A,y⟩:=h.ok;have K:Upn 4096 (fun j _=>j<10) D.now r.1.now:=u.imp fun j t q=>by have:=Ri q;show j<10;omega
 refine⟨⟨L,by rw[b.cap];exact f,⟨ms,[],⟨?_,fun i p=>(C i p).2,N,by rw[b.cap];exact A,y⟩,⟨fun l E=>(by cases E),Z,Bc,.inl Z,fun k a=>absurd a (Uj k),?_⟩,Z,fun i _=>by rw[List.take_nil,b.cap];exact⟨A,y⟩⟩,?_⟩,K⟩
 .have:=(C 4 Bc).1;omega
 .intro k _ a o;exact u.G (g:=g+1) (fun d=>h.log k a d) (fun t q=>by have:=Ri q;omega) o
 .intro i p o;have e:(1-(g+1)%2)*5+i=g%2*5+i:=X;rw[e]at o ⊢;refine u.G (g:=g+1) (fun d=>.inr ?_) (fun t q=>by have:=Ri q;omega) o;have Q:=Yh (gen:=(g:H)) X (by have:=I.gen;omega) (Cf v) p;rw[I.sec i p,Q];show(g:H)<((g+1:Y):H);omega
def Arc.Alr(h:Arc D g nx ms)(A:g+1<=4611686018427387904){n:Y}{r:Dv×Y}(b:Sy D (chs ((g+1)%2*5) (EM ((g+1:Y):H) (Cf ms))) n r)(h0:r.2≠0):
 r.2=190/\Gone r.1/\D.at_≠0/\(∃G,G<=g+1/\Can (Eh r.1) G ms)/\Upn 4096 (fun j _=>j<10) D.now r.1.now:=by
 have Q:=h.rest;have e:=h.cap;have N:∀t∈EM ((g+1:Y):H) (Cf ms),Alz t=512:=Ti _;have W:=NQ _ ((g+1)%2*5) N;obtain⟨f1,x,f3,_⟩:=b.Alf Q (Qr N (by rw[IG];omega)) h0;have o:r.1.cap=D.cap:=b.cap;obtain⟨u,w⟩:=b.up Q W 4096;obtain⟨a,d,p,y,a3,a4⟩:=h.made;obtain⟨K,I⟩:=h.ok;have S:Upn 4096 (fun j _=>j<10) D.now r.1.now:=u.imp fun j t q=>by have:=Ri q;show j<10;omega
 have hh:=p.has;have E:Slot r.1.now r.1.cap g a:=⟨X,fun i v=>(u.keep X X fun t q=>by have:=Ri q;omega).2.trans (p.sec i v),p.gen,by rw[o];exact p.chk,p.sums⟩;have C:Clean r.1.now g d nx:=y.up u Bc fun j h1 _ t q=>by have:=Ri q;omega
 have T:Xl r.1.now g ms:=fun i v hj=>by
  rcases u.sec _ hj with q|⟨_,q⟩|q
  .exact .inl (by rw[q.2];exact h.oth i v q.1)
  .exact .inl (by rw[q];exact Vh g)
  .refine .inr ?_;have:=((JV _ _ _ _).1 q).2.2;rw[show(1-g%2)*5+i-(g+1)%2*5=i by omega,Cd,aX _ _ v]at this;exact this.symm
 have f:Uc r.1.now (g+1):=C.Alh p.gen;have V:∀i,i<=Alz d->OkC (DI a (d.take i)) (Eh r.1).cap/\FW (DI a (d.take i)):=fun i v=>by rw[show(Eh r.1).cap=D.cap from o];exact a4 i v
 have L:∃a d nx,Slot r.1.now r.1.cap g a/\Wal.replay r.1.now g=(d,nx)/\Ob d/\Du d<=20/\ms=DI a d/\∀i,i<=Alz d->OkC (DI a (d.take i)) (Eh r.1).cap/\FW (DI a (d.take i)):=
  ⟨a,d,nx,E,C.replay p.gen,y.good,by rw[y.tot];exact y.le,a3,V⟩
 refine⟨f1,x,f3,?_,S⟩;rcases Aaj (D:=Eh r.1) T A (by rw[show(Eh r.1).cap=D.cap from o];exact K) I with q|q|⟨_,q2⟩
 .exact⟨g,PY g,x.up,by rw[show(Eh r.1).cap=D.cap from o];exact e,L,.inl q,f⟩
 .exact⟨g,PY g,x.up,by rw[show(Eh r.1).cap=D.cap from o];exact e,L,.inr q,f⟩
 .have B:Clean r.1.now (g+1) [] 0:=⟨fun l w=>(by cases w),Z,Bc,.inl Z,fun k hk=>absurd hk (Uj k),fun k _ h2 h3=>f k h2 h3⟩;refine⟨g+1,Bq _,x.up,by rw[show(Eh r.1).cap=D.cap from o];exact e,⟨ms,[],0,q2,B.replay A,fun l w=>(by cases w),Bc,Z,fun i _=>by rw[List.take_nil,show(Eh r.1).cap=D.cap from o];exact⟨K,I⟩⟩,.inr ⟨((g:H),a),?_,?_⟩,B.Alh A⟩
  .have:=Slot.Alm (D:=Eh r.1) E;rwa[show g%2=1-(g+1)%2 by omega]at this
  .show(g:H)<((g+1:Y):H);omega
def Ach{rd:Y->BM}{l:Ae Nt}{f i:Y}{out:Ae (Ae Nt)}{b:Y}(E:g<=4611686018427387904)(hl:Wal.Good l)(x:l≠[])(hf:Alz l+1<=f)(N:i<=m)(L:i+Alz l+1<=20)(y:m<=20)
 (I:∀k,k<Alz l+1->i+k<m->rd (i+k)=(txs g i l).getD k []∨Is g (rd (i+k))):
 (i+Alz l+1<=m/\CK (g:H) rd m f i [] out b=CK (g:H) rd m (f-(Alz l+1)) (i+Alz l+1) [] (out++[l]) (i+Alz l+1))∨CK (g:H) rd m f i [] out b=(out,b):=by
 by_cases h:∀k,k<Alz l+1->i+k<m/\rd (i+k)=(txs g i l).getD k []
 .left;have C:i+Alz l+1<=m:=(h (Alz l) (PZ _)).1;refine⟨C,?_⟩;have:=mK (f:=f-(Alz l+1)) (i:=i) (out:=out) (b:=b) E hl x (fun k o=>(h k o).2) C y;rw[show f-(Alz l+1)+(Alz l+1)=f by omega]at this;exact this
 .right
  have Q:∃k,k<Alz l+1/\¬(i+k<m/\rd (i+k)=(txs g i l).getD k [])/\∀j,j<k->i+j<m/\rd (i+j)=(txs g i l).getD j []:=by
   have S:∃k,k<Alz l+1/\¬(i+k<m/\rd (i+k)=(txs g i l).getD k []):=IM fun q=>h fun k o=>IM fun w=>q ⟨k,o,w⟩;obtain⟨k,o,d⟩:=S
   induction k using RY with
   |ind k ih=>
    by_cases q:∀j,j<k->i+j<m/\rd (i+j)=(txs g i l).getD j []
    .exact⟨k,o,d,q⟩
    .obtain⟨j,p,B⟩:∃j,j<k/\¬(i+j<m/\rd (i+j)=(txs g i l).getD j []):=IM fun G=>q fun j p=>IM fun w=>G ⟨j,p,w⟩;exact ih j p X B
  obtain⟨k,o,d,t⟩:=Q;have a:Alz (l.take k)=k:=by rw[BW];omega
  have A:i+k<=m:=by
   rcases JF k with e|e
   .omega
   .have:=(t (k-1) X).1;omega
  have r:=aL (gen:=g) (rd:=rd) (m:=m) (l.take k) (f-k) i [] out b (fun n K=>hl n (Kn K)) (fun j p=>by
   rw[a]at p;have v:j<Alz l:=X;rw[(t j p).2,bT g i l v];have:=VF E l i hl X j v;rwa[List.getElem_take]) (by rw[a];exact A)
  rw[a,show f-k+k=f by omega]at r;rw[r];by_cases q:i+k<m
  .exact aM (((I k o q).resolve_left fun z=>d ⟨q,z⟩).stop)
  .exact aK X
def Acf{s:BM}{d:Ae (Ae Nt)}(n:g<=4611686018427387904)(good:Ob d)(a:Du d=nx)(le:nx<=20)(has:nx=0∨(10+nx)*512<=Alz s)(sec:∀k,k<nx->BS s (10+k)=(Dy g 0 d).getD k []):
 Wal.replay s g=CK g (fun i=>Wal.sec s (10+i)) (Ek s) (21-nx) nx [] d nx/\(nx<=Ek s∨nx=0)/\Ek s<=20:=by
 have f:Ek s<=20:=Nat.min_le_left _ _
 have j:nx<=Ek s∨nx=0:=by
  unfold Ek;rcases has with q|q
  .exact .inr q
  .exact .inl X
 refine⟨?_,j,f⟩;unfold Wal.replay;have h:=aJ (gen:=g) (rd:=fun i=>Wal.sec s (10+i)) (m:=Ek s) n f d (21-nx) 0 [] 0 good (fun k l=>by rw[EE];exact sec k (by rw[<-a];exact l)) (by rw[a,EE];omega);rw[a,show 21-nx+nx=21 by omega,EE,EW]at h;refine h.trans ?_;by_cases e:d=[]
 .subst e;rw[Aj Z,<-a];rfl
 .rw[Ag e]
def vV{a:Ae M}{d:Ae (Ae Nt)}{ns:Ae Nt}{cap:H}(h:∀i,i<=Alz d->OkC (DI a (d.take i)) cap/\FW (DI a (d.take i)))(h1:OkC (DI a (d++[ns])) cap)(h2:FW (DI a (d++[ns]))):
 ∀i,i<=Alz (d++[ns])->OkC (DI a ((d++[ns]).take i)) cap/\FW (DI a ((d++[ns]).take i)):=fun i e=>by
 rw[Bx,CL]at e;by_cases q:i<=Alz d
 .rw[Ua q];exact h i q
 .rw[Dh (by rw[Bx,CL];omega)];exact⟨h1,h2⟩
def Arc.Alt{ns:Ae Nt}(h:Arc D g nx ms)(E:ns≠[])(d:Wal.Good ns)(Q:nx+Alz ns+1<=20)(af:OkC (Dm ms ns) D.cap)(L:FW (Dm ms ns)){n:Y}{r:Dv×Y}(b:Sy D (chs (10+nx) (txs g nx ns)) n r)(h0:r.2≠0):
 r.2=190/\Gone r.1/\D.at_≠0/\(Can (Eh r.1) g ms∨Can (Eh r.1) g (Dm ms ns))/\Upn 4096 (fun j _=>j<30) D.now r.1.now:=by
 have hR:=h.rest;have S:=h.cap;have hm:∀n∈ns,CJ n:=fun n hn=>(d n hn).1;have hT:∀t∈txs g nx ns,Alz t=512:=We hm;have hw:=NQ _ (10+nx) hT;obtain⟨f1,f2,f3,_⟩:=b.Alf hR (Qr hT (by rw[IJ];omega)) h0;have hc:(Eh r.1).cap=D.cap:=b.cap;obtain⟨u,N⟩:=b.up hR hw 4096;obtain⟨p,K,V,w,a3,a4⟩:=h.made;have ug:Upn 4096 (fun j _=>j<30) D.now r.1.now:=u.imp fun j t q=>by have:=Ru q;show j<30;omega
 have W:∀j,j<10+nx->∀t,¬CP (chs (10+nx) (txs g nx ns)) j t:=fun j hj t q=>by have:=Ru q;omega
 have s1:Slot (Eh r.1).now (Eh r.1).cap g p:=by rw[hc];exact V.up u Bc fun j hj=>W j X
 have so:=lP (D:=Eh r.1) (h.oth.up u fun j hj t q=>absurd q (W j X t));have A:=w.tot;have h9:=w.has;have fr:=Acf (s:=r.1.now) V.gen w.good A w.le (h9.imp id fun q=>BA q N) fun k hk=>(u.keep (by rcases h9 with z|z<;>omega) X (W _ X)).2.trans (w.sec k hk);obtain⟨T,ao,al⟩:=fr
 have v:∀k,nx<=k->k<20->10+k<Alz r.1.now/512->(k<nx+(Alz ns+1)/\BS r.1.now (10+k)=(txs g nx ns).getD (k-nx) [])∨Is g (BS r.1.now (10+k)):=fun k h1 h2 x=>by
  rcases u.sec _ x with q|⟨_,q⟩|q
  .exact .inr (by rw[q.2];exact w.G k h1 h2 q.1)
  .exact .inr (by rw[q];exact Vh g)
  .have I:=Ru q;have:=((JV _ _ _ _).1 q).2.2;rw[show 10+k-(10+nx)=k-nx by omega]at this;exact .inl ⟨X,this.symm⟩
 have G:∀k,k<Alz ns+1->(Cu ((txs g nx ns).getD k [])).1.gen=(g:H):=fun k hk=>by
  have:=Zz (g:=g) [ns] nx (by simp[Du];omega) V.gen (fun l N=>by rw[Cp.1 N];exact⟨d,E⟩) k (by simp[Du];omega);rwa[show Dy g nx [ns]=txs g nx ns from List.append_nil _]at this
 have ai:Uc r.1.now (g+1):=fun k h2 x=>by
  by_cases q:k<nx
  .exact u.G (fun z=>w.Alh V.gen k h2 z) (W _ X) x
  .rcases v k X h2 x with⟨q1,I⟩|q
   .refine .inr ?_;rw[I,G _ X];omega
   .exact q.mono (PY g)
 have can:∀(a:Ae (Ae Nt)) (B:Y),Wal.replay (Eh r.1).now g=(a,B)->Ob a->Du a<=20->(∀i,i<=Alz a->OkC (DI p (a.take i)) D.cap/\FW (DI p (a.take i)))->Can (Eh r.1) g (DI p a):=fun a B q1 I q3 q4=>
  ⟨f2.up,by rw[hc];exact S,⟨p,a,B,s1,q1,I,q3,Z,by rw[hc];exact q4⟩,so,ai⟩
 refine⟨f1,f2,f3,?_,ug⟩
 have ab:Wal.replay (Eh r.1).now g=(K,nx)->Can (Eh r.1) g ms:=fun q=>by
  rw[a3];exact can K nx q w.good (by rw[A];exact w.le) a4
 have a0:=w.le;by_cases C:nx<=Ek r.1.now
 .rcases Ach (g:=g) (m:=Ek r.1.now) (rd:=fun i=>Wal.sec r.1.now (10+i)) (l:=ns) (f:=21-nx) (i:=nx) (out:=K) (b:=nx) V.gen d E X C Q al (fun k hk aj=>by
   have x:10+(nx+k)<Alz r.1.now/512:=by unfold Ek at aj;omega
   rcases v (nx+k) X X x with q|q
   .refine .inl ?_;have:=q.2;rwa[show nx+k-nx=k by omega]at this
   .exact .inr q)with⟨q1,I⟩|q
  .right;have o:Dm ms ns=DI p (K++[ns]):=by rw[YO,<-a3]
   rw[o];refine can (K++[ns]) (nx+Alz ns+1) ?_ ?_ ?_ (vV a4 (by rw[<-o];exact af) (by rw[<-o];exact L))
   .refine T.trans (I.trans ?_);by_cases z:nx+Alz ns+1<Ek r.1.now
    .have x:10+(nx+Alz ns+1)<Alz r.1.now/512:=by unfold Ek at z;omega
     rcases v (nx+Alz ns+1) X X x with y|y
     .omega
     .exact aM y.stop
    .exact aK X
   .intro l N;rcases CW.1 N with q|q
    .exact w.good l q
    .rw[Cp]at q;rw[q];exact⟨d,E⟩
   .have:Du (K++[ns])=nx+Alz ns+1:=by rw[<-A];simp[Du];omega
    omega
  .exact .inl (ab (T.trans q))
 .have e:nx=0:=ao.resolve_left C;exact AH (by omega:nx<=Ek r.1.now) C
end
end
section
open Pth Rec Srt Dsk Wal Cat Tar
structure VJ(V:Vl)(g nx k:Y)(fs:Ae En):Prop where
 L:Arc V.D g nx V.i
 B:Fil V.D V.i fs
 gen:V.gen=(g:H)
 next:V.next=(nx:H)
 good:V.N=Ai
 sm:Sm V.D k
 gk:g<=k
structure Fell(V:Vl)(k:Y)(fs:Ae En):Prop where
 gone:Gone V.D
 ok:VOk V k
 can:∃g ms,g<=k/\Can (Eh V.D) g ms/\Fil (Eh V.D) ms fs
section
variable{V:Vl}{D:Dv}{g nx k:Y}{ms:Ae M}{fs fs':Ae En}{ns:Ae Nt}
def VJ.l{k':Y}(h:VJ V g nx k fs)(hk:k<=k'):VJ V g nx k' fs:=⟨h.L,h.B,h.gen,h.next,h.good,h.sm.l hk,BA h.gk hk⟩
def VOk.Alb{E:Dv}{k':Y}(h:VOk V k)(b:Ar)(h1:E.q)(h2:Sm E k'):VOk { V with D:=E,N:=b } k':=⟨h1,h2,h.gen,h.next,h.ok,h.len,h.g⟩
def VOk.Ali{k':Y}(h:VOk V k)(hk:k<=k'):VOk V k':=⟨h.E,h.sm.l hk,h.gen,h.next,h.ok,h.len,h.g⟩
def Fell.l{k':Y}(h:Fell V k fs)(hk:k<=k'):Fell V k' fs:=by
 obtain⟨g,ms,d,a⟩:=h.can;exact⟨h.gone,h.ok.Ali hk,g,ms,BA d hk,a⟩
def MA{l:Ae M}{cap:H}(h:OkC l cap){m:M}(hm:m∈l):30<=m.start/\1<=m.p/\m.start+m.p<=cap/\cap<=4096:=by
 have a:=h.a.fit _ (QA hm);have d:=h.a.room;unfold HT at a;dsimp only at a;omega
def VJ.ok(h:VJ V g nx k fs):VOk V k:=by
 obtain⟨d,e⟩:=h.L.ok;obtain⟨i,f⟩:=h.L.gle;have l:=h.gen;have j:=h.next;exact⟨h.L.rest.ok,h.sm,X,X,fun m a=>YJ ⟨d.may m a,e m a⟩,by have:=d.len;omega,fun m a=>by have:=(JU (d.may m a)).1;omega⟩
def VJ.live(h:VJ V g nx k fs):¬(V.N=Af∨V.D.dead=Af):=by
 rw[h.good,h.L.rest.dead];decide
def OY{D':Dv}{P:Y->BM->Prop}(hf:Fil D ms fs)(hok:OkC ms D.cap)(u:Upn 4096 P D.now D'.now)(hp:∀j t,P j t->j<30):Fil D' ms fs:=
 hf.up u (fun m hm=>by have:=MA hok hm;omega) fun m hm j h1 h2 t q=>by
  have:=MA hok hm;have:=hp j t q;dsimp only at h1;omega
def GD(V:Vl)(r:Vl×Y)(k:Y)(fs fs':Ae En)(Q:Y->Y->Prop):Prop:=
 r.1.D.cap=V.D.cap/\r.1.D.at_<=V.D.at_/\((r.2=0/\∃g nx,VJ r.1 g nx k fs'/\Q g nx)∨(r.2=190/\V.D.at_≠0/\(Fell r.1 k fs∨Fell r.1 k fs')))
def GD.imp{r:Vl×Y}{k':Y}{Q Q':Y->Y->Prop}(h:GD V r k fs fs' Q)(hk:k<=k')(hQ:∀g nx,VJ r.1 g nx k fs'->r.2=0->Q g nx->Q' g nx):GD V r k' fs fs' Q':=
 ⟨h.1,h.2.1,h.2.2.imp (fun⟨a,g,nx,b,c⟩=>⟨a,g,nx,b.l hk,hQ g nx b a c⟩) fun⟨a,b,c⟩=>⟨a,b,c.imp (·.l hk) (·.l hk)⟩⟩
def GD.trans{R r:Vl×Y}{k':Y}{a:Ae En}{Q f:Y->Y->Prop}(h:GD V R k fs fs Q)(hk:k<=k')(h0:R.2≠0->r=R)(h1:∀g nx,R.2=0->VJ R.1 g nx k fs->Q g nx->GD R.1 r k' fs a f):GD V r k' fs a f:=by
 obtain⟨e,d,⟨w,g,nx,v,t⟩|⟨q,p,o⟩⟩:=h
 .obtain⟨n,m,l⟩:=h1 g nx w v t;exact⟨n.trans e,BA m d,l.imp id fun⟨j,x,i⟩=>⟨j,X,i⟩⟩
 .rw[h0 X];exact⟨e,d,.inr ⟨q,p,.inl ((o.elim id id).l hk)⟩⟩
def VJ.room(h:VJ V g nx k fs)(hk:k<=1000000000){n:Y}(v:n<=20):GD V (CN V (n:H)) (k+6) fs fs fun _ nx'=>nx'+n<=20/\(CN V (n:H)).1.i=V.i:=by
 have l:=h.next;have m:=h.gk;unfold CN;by_cases q:(n:H)<=20-V.next
 .rw[Aj q];exact⟨Z,Bq _,.inl ⟨Z,g,nx,h.l X,X,Z⟩⟩
 .rw[Ag q];have e:V.gen+1=((g+1:Y):H):=by rw[h.gen];omega
  have f:=h.L.cap;have d:=h.L.ok.1;rw[e];have b:=aU (g:=g+1) h.L.rest (QP d X) d X;by_cases z:(CO V.D ((g+1:Y):H) V.i).2=0
  .rw[Ag (fun q=>q z)];obtain⟨a,u⟩:=h.L.can.saved X b z;exact⟨b.cap,b.at_,.inl ⟨Z,g+1,0,⟨a,OY h.B d u (fun j t q=>by omega),Z,Z,h.good,b.sm h.sm,X⟩,X,Z⟩⟩
  .rw[Aj z];obtain⟨r,i,p,⟨G,w,o⟩,u⟩:=h.L.Alr X b z;exact⟨b.cap,b.at_,.inr ⟨r,p,.inl ⟨i,h.ok.Alb Af i.ok (b.sm h.sm),G,V.i,X,o,OY h.B d u (fun j t q=>by omega)⟩⟩⟩
def fM(n:Arc V.D g nx V.i)(h:V.gen=(g:H))(d:V.next=(nx:H))(w:V.N=Ai)(o:Sm V.D k)(B:g<=k)(v:VOk V k)(x:Fil V.D V.i fs)(hf:Fil V.D (Dm V.i ns) fs')(m:ns≠[])(f:Wal.Good ns)(i:nx+Alz ns+1<=20)(l:OkC (Dm V.i ns) V.D.cap)(A:FW (Dm V.i ns)):
 GD V (Ml V ns) (k+(Alz ns+2)) fs fs' fun _ _=>(Ml V ns).1.i=Dm V.i ns:=by
 unfold Ml;rw[h,d];obtain⟨b,e⟩:=sj n.rest n.cap n.gle.1 m f i;by_cases z:(Fw V.D (g:H) (nx:H) ns).2.2=0
 .rw[Ag (fun q=>q z)];obtain⟨a,u⟩:=n.Alw m f i l A b z;exact⟨b.cap,b.at_,.inl ⟨Z,g,_,⟨a,OY hf l u (fun j t q=>q),Z,e z,w,b.sm o,X⟩,Z⟩⟩
 .rw[Aj z];obtain⟨E,y,C,p,u⟩:=n.Alt m f i l A b z;refine⟨b.cap,b.at_,.inr ⟨E,C,?_⟩⟩;have r:=v.Alb Af y.ok (b.sm o);rcases p with p|p
  .exact .inl ⟨y,by rw[<-h,<-d]at r ⊢;exact r,g,_,X,p,OY x n.ok.1 u (fun j t q=>q)⟩
  .exact .inr ⟨y,by rw[<-h,<-d]at r ⊢;exact r,g,_,X,p,OY hf l u (fun j t q=>q)⟩
def VJ.after{f:Ae Ch}{n:Y}{c:Dv×Y}(h:VJ V g nx k fs)(b:Bt V.D f n c)(o:Wr f)(B:∀c∈f,c.ok V.D.cap)(hl:∀j t,CP f j t->30<=j)(K:∀j t t',CP f j t->CP f j t'->t=t')
 (v:ns≠[]) (i:Wal.Good ns) (m:nx+Alz ns+1<=20) (p:OkC (Dm V.i ns) V.D.cap) (L:FW (Dm V.i ns)) (hold:∀D':Dv,Upn 4096 (CP f) V.D.now D'.now->Fil D' V.i fs)
 (hf:∀D':Dv,Upn 4096 (CP f) V.D.now D'.now->(∀j t,CP f j t->(j+1)*512<=Alz D'.now/\BS D'.now j=t)->Fil D' (Dm V.i ns) fs'):
 GD V (Ni V c ns) (k+(n+1)+(Alz ns+2)) fs fs' fun _ _=>(Ni V c ns).1.i=Dm V.i ns:=by
 have l:=h.L.rest;have s:=Sy.of l b
 have d:∀r:Dv×Y,Sy V.D f (n+1) r->r.2≠0->GD V (V.fail r.1 r.2) (k+(n+1)+(Alz ns+2)) fs fs' fun _ _=>(Ni V c ns).1.i=Dm V.i ns:=fun r s z=>by
  obtain⟨P,x,N,_⟩:=s.Alf l B z;obtain⟨u,_⟩:=s.up l o 4096;have a:=h.L.up (D':=Eh r.1) x.up s.cap u Bc hl;have w:=h.gk;exact⟨s.cap,s.at_,.inr ⟨P,N,.inl ⟨x,h.ok.Alb Af x.ok ((s.sm h.sm).l X),g,V.i,X,a.can,hold (Eh r.1) u⟩⟩⟩
 obtain⟨E,e⟩:=c;by_cases q:e=0
 .subst q;rw[Aj Z]at s;rw[Xo]at d ⊢;by_cases z:E.w.2=0
  .rw[Ag (fun q=>q z)];obtain⟨u,_⟩:=s.up l o 4096;obtain⟨A,_⟩:=s.live l B z;have W:=h.L.up A s.cap u Bc hl;have w:=h.gk;obtain⟨I,G,C⟩:=fM (V:={ V with D:=E.w.1 }) (ns:=ns) (fs:=fs) (fs':=fs') (k:=k+(n+1)) W h.gen h.next h.good (s.sm h.sm) X (h.ok.Alb V.N A.ok (s.sm h.sm)) (hold _ u) (hf _ u fun j t q=>s.has l o z K q) v i m (by show OkC _ (E.w.1.cap:H);rw[s.cap];exact p) L;exact⟨I.trans s.cap,BA G s.at_,C.imp id fun⟨T,S,Q⟩=>⟨T,fun y=>S (Nat.le_zero.1 (y▸s.at_)),Q⟩⟩
  .rw[Aj z]at d ⊢;exact d _ s z
 .rw[Ag (show ¬(E,e).2=0 from q)]at s;rw[Ur (show(E,e).2≠0 from q)]at d ⊢;exact d _ s q
def lX{cap:H}{E0:Ae Xt}:∀(l:Ae En) (ps r:Ae Xt),OkX (E0++ps) cap->Fm cap E0 ps l=(r,0)->∃qs,r=ps++qs/\qs.map Sb=l.map Ca/\OkX (E0++r) cap
 |[],ps,r,h,e=>by
  rw[Fm]at e;injection e with e1 e2;subst e1;exact⟨[],Bh,Z,h⟩
 |x::l,ps,r,h,e=>by
  rw[Fm]at e;split at e
  .rename_i q;injection e with e1 e2;exact AH e2 q
  .rename_i q;have q0:(Ey (E0++ps) cap (Ca x)).2=0:=Dd.1 q;obtain⟨a1,a2,a3⟩:=YK q0;have a4:=a3.ok a1 h;rw[Cq]at a4;obtain⟨qs,rfl,b2,b3⟩:=lX l _ r a4 e;exact⟨_::qs,by rw[Cq];rfl,by rw[Cm,Cm,b2],b3⟩
noncomputable def GM(zs:Ae (Xt×En)):Ae Ch:=zs.flatMap fun z=>chs z.1.1.toNat (EG (BU z.2))
def XL{s:BM}(h:Alz s%512=0):∀t∈EG s,Alz t=512:=fun t a=>by
 unfold EG at a;obtain⟨k,d,rfl⟩:=Cr.1 a;have:=DX.1 d;rw[BW,CA];omega
def fq{s:BM}{k:Y}(h:k<Alz s/512):(EG s).getD k []=BS s k:=by
 unfold EG;rw[Cd,DV,MY h];rfl
def Bt.writeX:∀(zs:Ae (Xt×En)) {D:Dv},D.dead=Ai->(∀z∈zs,Fits z.2/\z.1.1.toNat+Alz (BU z.2)/512<=D.cap)->Bt D (GM zs) (Alz (GM zs)) (writeX D zs)
 |[],D,h,_=>Bt.nil h
 |(p,x)::zs,D,h,hz=>by
  obtain⟨q1,q2⟩:=hz _ (Ip ..);have el:=KD q1;have b:=Bt.writes (EG (BU x)) (D:=D) p.1.toNat h (XL el.1) (by rw[Mi];exact q2);have e:GM ((p,x)::zs)=chs p.1.toNat (EG (BU x))++GM zs:=Gk;rw[Go.Proofs.YtkmlafmjaeeanaaGreatDoor.writeX,e,Bx,XM];split
  .rename_i q;exact b.stop q _ X
  .rename_i q;have q0:=Dd.1 q;exact b.trans q0 (Bt.writeX zs (b.live q0) fun z hz'=>by rw[b.cap];exact hz z (Gl _ hz'))
def Su{zs:Ae (Xt×En)}{j:Y}{t:BM}(h:CP (GM zs) j t):∃z∈zs,z.1.1.toNat<=j/\j<z.1.1.toNat+Alz (BU z.2)/512/\(EG (BU z.2)).getD (j-z.1.1.toNat) []=t:=by
 obtain⟨z,d,q⟩:=Oi.1 h;obtain⟨a,b,c⟩:=(JV _ _ _ _).1 q;rw[Mi]at b;exact⟨z,d,a,b,c⟩
def jL{zs:Ae (Xt×En)}{z:Xt×En}(hz:z∈zs){k:Y}(hk:k<Alz (BU z.2)/512):CP (GM zs) (z.1.1.toNat+k) (BS (BU z.2) k):=
 Oi.2 ⟨z,hz,(JV _ _ _ _).2 ⟨X,by rw[Mi];omega,by rw[Ko,fq hk]⟩⟩
def fV:∀(zs:Ae (Xt×En)),(∀z∈zs,Alz (BU z.2)/512<=4096)->Alz (GM zs)<=4096*Alz zs
 |[],_=>Bq _
 |z::zs,h=>by
  have e:GM (z::zs)=chs z.1.1.toNat (EG (BU z.2))++GM zs:=Gk;have:=fV zs fun y hy=>h y (Gl _ hy);have:=h z (Ip ..);rw[e,Bx,XM,Mi,CF];omega
structure Plac(cap:H)(ms:Ae M)(zs:Ae (Xt×En)):Prop where
 ok:OkX (BY ms++zs.map Prod.fst) cap
 fit:∀z∈zs,Fits z.2
 len:∀z∈zs,z.1.2=Ca z.2
section
variable{zs:Ae (Xt×En)}{cap:H}
def Plac.z(h:Plac cap ms zs){z:Xt×En}(a:z∈zs):30<=z.1.1/\z.1.1+Ca z.2<=cap/\cap<=4096/\2<=Ca z.2/\Ca z.2=((Alz (BU z.2)/512:Y):H):=by
 have d:=h.ok.fit z.1 (List.mem_append_right _ (Cr.2 ⟨z,a,Z⟩));have j:=h.ok.room;have f:=h.len z a;have i:=KD (h.fit z a);unfold HT at d;rw[f]at d;have e:Ca z.2=((Alz (BU z.2)/512:Y):H):=rfl;refine⟨d.1,X,X,X,e⟩
def Plac.one(h:Plac cap ms zs):∀j t t',CP (GM zs) j t->CP (GM zs) j t'->t=t':=fun j t t' a b=>by
 obtain⟨z,d,A,x,l⟩:=Su a;obtain⟨y,e,w,r,i⟩:=Su b;have f:zs.Pairwise fun u v=>apart u.1 v.1:=LW.1 (Na.1 h.ok.far).2.1;rcases Abw (fun u v q=>Xy q) f z d y e with rfl|q
 .exact l.symm.trans i
 .exfalso;have m:=h.z d;have n:=h.z e;have p:=h.len z d;have o:=h.len y e;unfold apart at q;omega
def Plac.All(h:Plac cap ms zs){m:M}(hm:m∈ms):Wp (CP (GM zs)) (m.start,m.p):=fun j e d t q=>by
 obtain⟨z,a,o,n,l⟩:=Su q;have f:=h.z a;have i:=h.len z a;have q:=(Na.1 h.ok.far).2.2 _ (QA hm) z.1 (Cr.2 ⟨z,a,Z⟩);unfold apart at q;dsimp only at q e d;omega
def Plac.wr(h:Plac cap ms zs):Wr (GM zs):=fun c d=>by
 obtain⟨z,a,q⟩:=Oi.1 d;exact NQ _ _ (XL (KD (h.fit z a)).1) c q
def Plac.okc{c:Y}(h:Plac (c:H) ms zs):∀d∈GM zs,d.ok c:=fun d e=>by
 obtain⟨z,a,q⟩:=Oi.1 e;have f:=h.z a;exact Qr (XL (KD (h.fit z a)).1) (by rw[Mi];omega) d q
def Plac.B{D':Dv}{c:Y}(h:Plac (c:H) ms zs)(d:De M.g ms)(hf:Fil D ms fs)(u:Upn 4096 (CP (GM zs)) D.now D'.now)(o:∀j t,CP (GM zs) j t->(j+1)*512<=Alz D'.now/\BS D'.now j=t):
 De M.g (zs.foldl (fun l z=>Cc M.g (mz z) l) ms)/\OkX (BY (zs.foldl (fun l z=>Cc M.g (mz z) l) ms)) c/\Fil D' (zs.foldl (fun l z=>Cc M.g (mz z) l) ms) ((zs.map Sb).foldl (fun f x=>Cc En.g x f) fs)/\
  ∀m∈zs.foldl (fun l z=>Cc M.g (mz z) l) ms,m∈ms∨∃z∈zs,m=mz z:=by
 refine mB zs ms fs d h.ok (hf.up u (fun m n=>?_) fun m n=>h.All n) fun z a=>?_
 .have p:=h.ok.fit _ (WR _ (QA n));have y:=h.ok.room;unfold HT at p;dsimp only at p;omega
 .have w:=h.z a;have v:=KD (h.fit z a);refine Stands.of (h.fit z a) (by show 0<=z.1.1;omega) (h.len z a) Z Z ⟨v.1,X,?_,fun i r=>(o _ _ (jL a r)).2⟩;have q:=(o _ _ (jL a (k:=Alz (BU z.2)/512-1) X)).1;have e:z.1.1.toNat+(Alz (BU z.2)/512-1)+1=z.1.1.toNat+Alz (BU z.2)/512:=X;rw[e]at q;exact q
end
def ZP{cap:H}{zs:Ae (Xt×En)}(h:Plac cap ms zs){z:Xt×En}(a:z∈zs):Ds (mz z)/\(mz z).sum<=4294967295:=by
 have d:=h.z a;have i:=h.len z a;have f:=h.fit z a;have e:=f.data;have:=ft z.2.data;exact⟨⟨f.g,d.1,by show 1<=z.1.2;omega,by show z.1.2<=4096;omega,by show z.1.1+z.1.2<=4096;omega,by show(0:H)<=(Alz z.2.data:H);omega,by show(Alz z.2.data:H)<=8192;omega⟩,by show Ff z.2.data<=_;omega⟩
def jx{cap:H}{zs:Ae (Xt×En)}(h:Plac cap ms zs):Wal.Good (zs.map fun z=>(⟨1,mz z⟩:Nt)):=fun n e=>by
 obtain⟨z,d,rfl⟩:=Cr.1 e;obtain⟨a,b⟩:=ZP h d;refine⟨?_,b⟩;unfold CJ;rw[XX,Aj a];exact nofun
def mC{cap:H}{zs:Ae (Xt×En)}(h:Plac cap ms zs)(hc:OkC ms cap)(hs:FW ms)(hms:De M.g (zs.foldl (fun l z=>Cc M.g (mz z) l) ms))(hx:OkX (BY (zs.foldl (fun l z=>Cc M.g (mz z) l) ms)) cap)(hm:∀m∈zs.foldl (fun l z=>Cc M.g (mz z) l) ms,m∈ms∨∃z∈zs,m=mz z)(hl:Alz (zs.foldl (fun l z=>Cc M.g (mz z) l) ms)<=16):
 OkC (zs.foldl (fun l z=>Cc M.g (mz z) l) ms) cap/\FW (zs.foldl (fun l z=>Cc M.g (mz z) l) ms):=
 ⟨⟨hl,fun m q=>by
  rcases hm m q with a|⟨z,hz,rfl⟩
  .exact hc.may m a
  .exact(ZP h hz).1,hms,hx⟩,fun m q=>by
  rcases hm m q with a|⟨z,hz,rfl⟩
  .exact hs m a
  .exact(ZP h hz).2⟩
def VJ.putF(h:VJ V g nx k fs)(hk:k<=900000000){l:Ae En}{ps:Ae Xt}(N:Alz ps=Alz l)(d:Plac V.D.cap V.i (ps.zip l))(x:l≠[])(hl:Alz (Dm V.i (HL DJ l ps))<=16)(ab:Alz l<=16):
 GD V (Go.Proofs.YtkmlafmjaeeanaaGreatDoor.putF V l ps) (k+100000) fs (l.foldl Db fs) fun _ _=>(Go.Proofs.YtkmlafmjaeeanaaGreatDoor.putF V l ps).1.i=Dm V.i (HL DJ l ps):=by
 unfold Go.Proofs.YtkmlafmjaeeanaaGreatDoor.putF;rw[Ag x];refine(h.room X (n:=Alz l+1) X).trans X (fun q=>Aj q) fun g1 W Q i⟨r3,B⟩=>?_;rw[Ag (fun q=>q Q)];have K:(CN V ((Alz l+1:Y):H)).1.D.cap=V.D.cap:=(h.room X (n:=Alz l+1) X).1;generalize(CN V ((Alz l+1:Y):H)).1=R at i B K ⊢;have v:=h.L.ok.1.P;obtain⟨zs,hzs⟩:∃zs,zs=ps.zip l:=⟨_,Z⟩;have P:zs.map Sb=l:=by rw[hzs,List.map_snd_zip X]
 rw[cF,<-hzs]at hl ⊢;rw[<-hzs]at d;rw[<-B,<-K]at d;rw[<-B]at hl v ⊢;have A:Dm R.i (zs.map fun z=>⟨1,mz z⟩)=zs.foldl (fun l z=>Cc M.g (mz z) l) R.i:=by rw[Nj v,YQ]
 have o:Alz zs=Alz l:=by rw[<-P,Dl]
 have b:=Bt.writeX zs (D:=R.D) i.L.rest.dead fun z r=>⟨d.fit z r,by have:=d.z r;omega⟩;have af:Alz (GM zs)<=4096*16:=BA (fV zs fun z r=>by have:=d.z r;omega) (Nat.mul_le_mul_left _ X);have I:=(pD l fs (Tc i.B.keys v)).1;obtain⟨L,T⟩:=i.L.ok;rw[A]at hl
 have w:OkC (zs.foldl (fun l z=>Cc M.g (mz z) l) R.i) R.D.cap/\FW (zs.foldl (fun l z=>Cc M.g (mz z) l) R.i):=by
  have S:∀(zs:Ae (Xt×En)) (ms:Ae M),De M.g ms->OkX (BY ms++zs.map Prod.fst) R.D.cap->De M.g (zs.foldl (fun l z=>Cc M.g (mz z) l) ms)/\OkX (BY (zs.foldl (fun l z=>Cc M.g (mz z) l) ms)) R.D.cap/\∀m∈zs.foldl (fun l z=>Cc M.g (mz z) l) ms,m∈ms∨∃z∈zs,m=mz z:=fun zs=>by
   induction zs with
   |nil=>exact fun ms a b=>⟨a,by rw[Em,List.append_nil]at b;exact b,fun m p=>.inl p⟩
   |cons z zs ih=>
    intro ms a b;obtain⟨G,E,C⟩:=ih _ (MI M.g (mz z) a) (YE (m:=mz z) a b);refine⟨G,E,fun m p=>?_⟩;rcases C m p with q|⟨y,hy,e⟩
    .rcases(Mv M.g (mz z) a m).1 q with q|q
     .exact .inr ⟨z,Ip ..,q⟩
     .exact .inl q.1
    .exact .inr ⟨y,Gl _ hy,e⟩
  obtain⟨G,E,C⟩:=S zs R.i v d.ok;exact mC d L T G E C hl
 have:=i.after (fs':=l.foldl Db fs) (ns:=zs.map fun z=>⟨1,mz z⟩) b d.wr d.okc (fun j t q=>by
  obtain⟨z,r,a1,_⟩:=Su q;have:=d.z r
  omega) d.one (fun e=>x (Im (by rw[<-o,<-Dl (f:=fun z=>(⟨1,mz z⟩:Nt)),e];rfl))) (jx d) (by rw[Dl,o];omega) (by rw[A];exact w.1) (by rw[A];exact w.2) (fun D' u=>i.B.up u (fun m p=>by have:=MA L p;omega) fun m p=>d.All p) fun D' u hs=>by
   rw[A,I];have:=(d.B v i.B u hs).2.2.1;rwa[P]at this
 refine this.imp ?_ fun _ _ _ _ q=>q;rw[Dl,o];omega
def lq(l:Ae En)(ps:Ae Xt)(h:Alz ps=Alz l)(ms:Ae M)(a:De M.g ms):
 (Dm ms (l.map Er)).map M.g=SF (l.map En.g) (ms.map M.g)/\(Dm ms (HL DJ l ps)).map M.g=SF (l.map En.g) (ms.map M.g):=by
 constructor
 .rw[Nj a]
  have e:(l.map Er).foldl Pw ms=(l.map fun x=>(Er x).mem).foldl (fun l m=>Cc M.g m l) ms:=by
   rw[WN,WN];rfl
  rw[e,aD,EV];rfl
 .rw[Nj a,cF,YQ]
  have e:(ps.zip l).foldl (fun l z=>Cc M.g (mz z) l) ms=((ps.zip l).map mz).foldl (fun l m=>Cc M.g m l) ms:=by
   rw[WN]
  rw[e,aD,EV];have d:(ps.zip l).map (M.g∘mz)=((ps.zip l).map Sb).map En.g:=by rw[EV];rfl
  rw[d,List.map_snd_zip X]
def zG(l:Ae En)(ms:Ae M)(a:De M.g ms)(d:(l.map En.g).Nodup):Alz l<=Alz (Dm ms (l.map Er)):=by
 have e:=(lq l (BH (Alz l) (0,0)) Bh ms a).1;have q:=(jZ (l.map En.g) (ms.map M.g) (Tc (k1:=M.g) (k2:=id) Bh a)).1;rw[<-e]at q;have:=ZS _ _ d q;rwa[Dl,Dl]at this
def Abn{l:Ae En}:FC l≠190:=by
 induction l with
 |nil=>exact nofun
 |cons x l ih=>
  unfold FC;split
  .decide
  .split
   .decide
   .exact ih
def lW{cap:H}{E0:Ae Xt}:∀(l:Ae En) (ps:Ae Xt),(Fm cap E0 ps l).2≠190
 |[],ps=>by rw[Fm];exact nofun
 |x::l,ps=>by
  rw[Fm];split
  .unfold Ey;split
   .exact nofun
   .show(if _ then 2 else 220:Y)≠190;split<;>decide
  .exact lW l _
def GA(V:Vl)(r:Vl×Y)(k:Y)(fs fs':Ae En):Prop:=r.1.D.cap=V.D.cap/\r.1.D.at_<=V.D.at_/\((r.2≠190/\∃g nx,VJ r.1 g nx k (if r.2=0 then fs' else fs))∨(r.2=190/\V.D.at_≠0/\(Fell r.1 k fs∨Fell r.1 k fs')))
def GD.call{r:Vl×Y}{Q:Y->Y->Prop}(h:GD V r k fs fs' Q):GA V r k fs fs':=
 ⟨h.1,h.2.1,h.2.2.imp (fun⟨a,g,nx,b,_⟩=>⟨X,g,nx,by rw[Aj a];exact b⟩) id⟩
def VJ.bad(h:VJ V g nx k fs){e k':Y}(h1:e≠190)(h0:e≠0)(hk:k<=k'):GA V (V,e) k' fs fs':=⟨Z,Bq _,.inl ⟨h1,g,nx,by rw[Ag (show(V,e).2≠0 from h0)];exact h.l hk⟩⟩
def VJ.same(h:VJ V g nx k fs){k':Y}(hk:k<=k'):GA V (V,0) k' fs fs:=⟨Z,Bq _,.inl ⟨(by show(0:Y)≠190;decide),g,nx,by rw[Aj Z];exact h.l hk⟩⟩
def VJ.put(h:VJ V g nx k fs)(hk:k<=700000000)(l:Ae En):GA V (EK V l) (k+100000) fs (l.foldl Db fs):=by
 unfold EK;rw[Ag h.live];unfold Es;by_cases m:FC l≠0
 .rw[Aj m];exact h.bad Abn m X
 rw[Ag m];have e:=mh (Dd.1 m);unfold NC;by_cases n:¬(l.map En.g).Nodup
 .rw[Aj n];exact h.bad Bc Bc X
 rw[Ag n];have C:=Dd.1 n;unfold LF;by_cases q:16<Alz (Dm V.i (l.map Er))
 .rw[Aj q];exact h.bad Bc Bc X
 rw[Ag q];unfold ND;by_cases j:(Fm V.D.cap (BY V.i) [] l).2≠0
 .rw[Aj j];exact h.bad (lW _ _) j X
 rw[Ag j];have x:=Dd.1 j;by_cases d:l=[]
 .subst d;unfold Go.Proofs.YtkmlafmjaeeanaaGreatDoor.putF;rw[Aj Z];exact h.same X
 obtain⟨o,I⟩:=h.L.ok;obtain⟨f,w,v,t⟩:=lX l [] _ (by rw[List.append_nil];exact o.a) (Prod.ext Z x:Fm V.D.cap (BY V.i) [] l=((Fm V.D.cap (BY V.i) [] l).1,0));rw[EW]at w;rw[w]at t ⊢
 have a:Alz f=Alz l:=by
  have:=AF DQ v;rwa[Dl,Dl]at this
 have r:=zG l V.i o.P C;obtain⟨A,y⟩:=lq l f a V.i o.P
 have E:Alz (Dm V.i (HL DJ l f))<=16:=by
  have:=AF DQ (y.trans A.symm);rw[Dl,Dl]at this;omega
 have B:Plac V.D.cap V.i (f.zip l):=by
  refine⟨by rw[List.map_fst_zip X];exact t,fun z p=>e _ (List.of_mem_zip p).2,fun z p=>?_⟩;obtain⟨i,G,rfl⟩:=List.getElem_of_mem p;rw[List.length_zip]at G;have:=AF (fun l=>l[i]?) v;simp only[DV]at this;rw[BQ X,BQ X]at this;rw[List.getElem_zip];simpa using this
 exact(h.putF X a B d E X).call
end
section
variable{V:Vl}{D:Dv}{g nx k:Y}{ms:Ae M}{fs fs':Ae En}
def yU{p:BM}(h:(CD V p).2=0):Cw p=0:=by
 unfold CD at h;split at h
 .cases h
 .split at h
  .cases h
  .rename_i q;exact Dd.1 q
def kQ(h:¬(V.N=Af∨V.D.dead=Af))(p:BM):(CD V p).2≠190:=by
 unfold CD;rw[Ag h];split
 .exact nofun
 .split<;>exact nofun
def VJ.Als(h:VJ V g nx k fs)(hk:k<=900000000)(p:BM)(q:(CD V p).2=0):GD V (Lu V p) (k+100) fs (Fs fs p) fun _ _=>(Lu V p).1.i=V.i.filter fun y=>decide (y.g≠p):=by
 unfold Lu;rw[Ag (fun z=>z q)];refine(h.room X (n:=2) Bc).trans (k':=k+100) X (fun z=>Aj z) fun w f l a⟨x,j⟩=>?_;have l:(CN V 2).2=0:=l;have a:VJ (CN V 2).1 w f (k+6) fs:=a;have j:(CN V 2).1.i=V.i:=j;show GD (CN V 2).1 _ _ _ _ _;rw[Ag (fun z=>z l),<-j];generalize(CN V 2).1=R at a ⊢;have v:=yU q;obtain⟨e,t⟩:=a.L.ok
 have i:Dm R.i [⟨2,bare p⟩]=R.i.filter fun y=>decide (y.g≠p):=by
  rw[Nj e.P];show Pw R.i ⟨2,bare p⟩=_;unfold Pw;rw[Ag (show ¬(2:H)=1 by decide),Aj Z];rfl
 have d:Wal.Good [⟨2,bare p⟩]:=fun n r=>by
  rw[Cp]at r;subst r;refine⟨?_,by show 0<=4294967295;decide⟩;unfold CJ;rw[UL,Aj ⟨v,Z⟩];exact nofun
 have:=fM (ns:=[⟨2,bare p⟩]) (fs':=Fs fs p) a.L a.gen a.next a.good a.sm a.gk a.ok a.B (by rw[i];exact a.B.del p) nofun d (by show f+1+1<=20;omega) (by
  rw[i];exact⟨BA (TT _ _) e.len,fun m o=>e.may m (Km.1 o).1,HK.sublist List.filter_sublist e.P,vx e.a p⟩) (by
  rw[i];exact fun m o=>t m (Km.1 o).1)
 exact this.imp (by show k+6+(1+2)<=_;omega) fun _ _ _ _ z=>z.trans i
def VJ.delete(h:VJ V g nx k fs)(hk:k<=900000000)(p:BM):GA V (Lu V p) (k+100) fs (Fs fs p):=by
 by_cases q:(CD V p).2=0
 .exact(h.Als hk p q).call
 .unfold Lu;rw[Aj q];exact h.bad (kQ h.live p) q X
def Bt.now{a:Ae Ch}{n:Y}{r:Dv×Y}(b:Bt D a n r)(h0:r.2=0):r.1.now=GH a D.now:=by
 rcases b.out with⟨_,_,_,q,_⟩|⟨q,_⟩
 .exact q
 .rw[h0]at q;cases q
def fP{t:BM}{a b:Y}(hm:Alz t%512=0)(o:a+Alz t/512<=b∨b+Alz t/512<=a):∀(n i:Y) (D:Dv),i+n=Alz t/512->D.dead=Ai->D.q->At D.now a t->b+Alz t/512<=D.cap->Bt D (chs (b+i) ((EG t).drop i)) (2*n) (Nl (a:H) (b:H) n i D)
 |0,i,D,h,hd,_,_,_=>by
  rw[Of (by rw[Mi];omega)];exact Bt.nil hd
 |n+1,i,D,h,hd,hok,hat,hb=>by
  have hlt:i<Alz t/512:=X;have hh:=hat.has;obtain⟨r1,r2⟩:=Bt.read hd (i:=((a+i:Y):H)) X X;have ea:(a:H)+(i:H)=((a+i:Y):H):=X;have eb:(b:H)+(i:H)=((b+i:Y):H):=X;have e1:(D.read ((a+i:Y):H)).2.2=0:=by rw[r2]
  have x:(D.read ((a+i:Y):H)).2.1=BS t i:=by rw[r2];exact hat.sec i hlt
  rw[Nl,ea,eb,e1,x,Ag (fun q=>q Z)];have d:(D.read ((a+i:Y):H)).1.q:=mG hok _;have e:(D.read ((a+i:Y):H)).1.now=D.now:=r1.now Z;generalize(D.read ((a+i:Y):H)).1=E at r1 d e ⊢;have m:E.cap=D.cap:=r1.cap;have f:Alz (BS t i)=512:=by unfold BS;rw[BW,CA];omega
  have w:=Bt.write (D:=E) (r1.live Z) (i:=b+i) (t:=BS t i) X f
  have v:chs (b+i) ((EG t).drop i)=[.write (b+i) (BS t i)]++chs (b+(i+1)) ((EG t).drop (i+1)):=by
   have p:i<Alz (EG t):=by rw[Mi];exact hlt
   have r:(EG t)[i]=BS t i:=by
    rw[<-fq hlt,Cd,BQ p];rfl
   rw[DD p,r];rfl
  rw[v];by_cases q:(E.write ((b+i:Y):H) (BS t i)).2=0
  .rw[Ag (fun z=>z q)];have l:=w.now q
   have:=fP hm o n (i+1) (E.write ((b+i:Y):H) (BS t i)).1 X (w.live q) (NR d _ _) (by
    rw[l];refine At.up (n:=a+Alz t/512) (by rw[e];exact hat) (Wk d.nowM f _) (Bq _) fun j A y z=>?_;rw[CP,Cp]at z;injection z with z1 z2;omega) (by rw[w.cap,m];exact hb)
   exact(r1.trans Z (w.trans q this)).l X
  .rw[Aj q];exact(r1.trans Z (w.stop q _ (Bq _))).l X
def VJ.Alo(h:VJ V g nx k fs)(hk:k<=900000000)(p:BM)(d:H)(q:(CD V p).2=0)(N:OkX (BY V.i++[(d,(CD V p).1.p)]) V.D.cap):GD V (Gu V p d) (k+10000) fs fs fun _ _=>(Gu V p d).1.i=Cc M.g { (CD V p).1 with start:=d } V.i:=by
 unfold Gu;rw[Ag (fun z=>z q),Ag (fun z=>z N)];obtain⟨o,ai⟩:=kP q;have r5:(CN V 2).1.D.cap=V.D.cap:=(h.room X (n:=2) Bc).1;refine(h.room X (n:=2) Bc).trans (k':=k+10000) X (fun z=>Aj z) fun g1 P r1 v⟨r3,r4⟩=>?_;have r1:(CN V 2).2=0:=r1;have v:VJ (CN V 2).1 g1 P (k+6) fs:=v;have r4:(CN V 2).1.i=V.i:=r4;show GD (CN V 2).1 _ _ _ _ _;rw[Ag (fun z=>z r1)];generalize(CD V p).1=m at o ai N ⊢;generalize(CN V 2).1=R at v r4 r5 ⊢;rw[<-r4]at o N ⊢;rw[<-r5]at N;obtain⟨x,hx,ab,i⟩:=v.B.mem o;obtain⟨w,o2⟩:=v.L.ok;have E:=i.Alk;have ao:=KD i.fits;obtain⟨z,hz⟩:∃z:Xt×En,z=((d,Ca x),x):=⟨_,Z⟩;have A:z.2=x:=by rw[hz]
 have B:z.1=(d,m.p):=by rw[hz,E]
 have I:({ m with start:=d }:M)=mz z:=by
  rw[hz];unfold mz;rw[<-ab,<-E,<-i.size,<-i.sum]
 have C:Plac R.D.cap R.i [z]:=by
  refine⟨by rw[Cm,Em,B];exact N,fun y S=>?_,fun y S=>?_⟩
  .rw[Cp.1 S,A];exact i.fits
  .rw[Cp.1 S,hz]
 have Q:z∈[z]:=Ip ..;obtain⟨p1,p2,p3,p4,p5⟩:=C.z Q;rw[A]at p2 p4 p5;rw[B]at p1 p2;dsimp only at p1 p2;have a2:=MA w o;have G:apart (m.start,m.p) (d,m.p):=(Na.1 N.far).2.2 _ (QA o) _ (Ip ..);unfold apart at G;dsimp only at G;have hN:m.p.toNat=Alz (BU x)/512:=X;have b:=fP (t:=BU x) (a:=m.start.toNat) (b:=d.toNat) ao.1 X (Alz (BU x)/512) 0 R.D X v.L.rest.dead v.L.rest.ok i.at_ X;have e1:((m.start.toNat:Y):H)=m.start:=X;have e2:((d.toNat:Y):H)=d:=X
 have a0:chs (d.toNat+0) ((EG (BU x)).drop 0)=GM [z]:=by
  rw[MW,JD];show _=chs z.1.1.toNat (EG (BU z.2))++[];rw[List.append_nil,A,B]
 rw[e1,e2,a0,<-hN]at b;have eN:([⟨1,{ m with start:=d }⟩]:Ae Nt)=[z].map fun z=>⟨1,mz z⟩:=by rw[I];rfl
 rw[eN];have eA:Dm R.i ([z].map fun z=>⟨1,mz z⟩)=[z].foldl (fun l z=>Cc M.g (mz z) l) R.i:=by rw[Nj w.P,YQ]
 have L:(mz z).g=m.g:=by rw[<-I]
 have K:(Cc M.g (mz z) R.i).map M.g=R.i.map M.g:=by
  rw[ZD,L];exact jP (Tc (k1:=M.g) (k2:=id) Bh w.P) (Cr.2 ⟨m,o,Z⟩)
 have W:Alz (Cc M.g (mz z) R.i)<=16:=by
  have:=AF DQ K;rw[Dl,Dl]at this;have:=w.len;omega
 have af:=MI M.g (mz z) w.P
 have T:=mC (zs:=[z]) C w o2 af (by
  have:=YE (m:=mz z) (r:=[]) (cap:=R.D.cap) w.P (by
   have q:=C.ok;rw[Cm,Em]at q;exact q)
  rw[List.append_nil]at this;exact this) (fun m' aj=>by
  rcases(Mv M.g (mz z) w.P m').1 aj with q|q
  .exact .inr ⟨z,Q,q⟩
  .exact .inl q.1) W
 have al:=Tc v.B.keys w.P
 have:=v.after (fs':=fs) (ns:=[z].map fun z=>⟨1,mz z⟩) b C.wr C.okc (fun j t q=>by
  obtain⟨y,S,a1,_⟩:=Su q;rw[Cp.1 S,B]at a1;dsimp only at a1
  omega) C.one nofun (jx C) (by show P+1+1<=20;omega) (by rw[eA];exact T.1) (by rw[eA];exact T.2) (fun D' u=>v.B.up u (fun m hm=>by have:=MA w hm;omega) fun m hm=>C.All hm) fun D' u hs=>by
   rw[eA];have q:=(C.B w.P v.B u hs).2.2.1
   have e:([z].map Sb).foldl (fun f x=>Cc En.g x f) fs=fs:=by
    show Cc En.g z.2 fs=fs;rw[A];exact jP al hx
   rwa[e]at q
 refine this.imp (by show k+6+(2*m.p.toNat+1)+(1+2)<=_;omega) fun _ _ _ _ y=>?_;rw[y,eA,I];rfl
def VJ.move(h:VJ V g nx k fs)(hk:k<=900000000)(p:BM)(a:H):GA V (Gu V p a) (k+10000) fs fs:=by
 by_cases q:(CD V p).2=0
 .by_cases d:OkX (BY V.i++[(a,(CD V p).1.p)]) V.D.cap
  .exact(h.Alo hk p a q d).call
  .unfold Gu;rw[Ag (fun z=>z q),Aj d];exact h.bad Bc Bc X
 .unfold Gu;rw[Aj q];exact h.bad (kQ h.live p) q X
def vz(c:Ch)(j:Y)(bs:Ae Ar)(s:BM):DM ([c].take j) bs s=s∨DM ([c].take j) bs s=c.ap s:=by
 cases j with
 |zero=>exact .inl Z
 |succ j=>
  rw[show[c].take (j+1)=[c] by simp];rcases bs with _|⟨b,bs⟩
  .exact .inl Z
  .cases b
   .exact .inl (by simp[DM])
   .exact .inr (by simp[DM])
def VJ.trim(h:VJ V g nx k fs):GD V (MP V) (k+2) fs fs fun _ _=>(MP V).1.i=V.i:=by
 have I:=gK V;have K:=h.L.ok.1;have N:=h.gk
 have f:∀m∈V.i,m.start+m.p<=Fg V:=fun m L=>by
  unfold Fg;rw[Aj (QP (g:=0) K Bc).chk.a];exact(YB _).2 _ (QA L)
 unfold MP;rw[Ag h.live];split
 .exact⟨Z,Bq _,.inl ⟨Z,g,nx,h.l X,Z⟩⟩
 rename_i x;have n:=h.L.rest;have A:=n.ok.now;obtain⟨e,he⟩:∃e:Y,Fg V=(e:H):=⟨(Fg V).toNat,X⟩;rw[he]at x I f ⊢
 have W:V.D.cut (e:H)=V.D.Ako (J (.cut e)):=by
  unfold Dv.cut;rw[Ag (by rw[n.dead];decide),Ag X];rfl
 rw[W];have b:=Bt.Ako n.dead (.cut e);have s:=Sy.of n b;have o:∀c∈[Ch.cut e],c.ok V.D.cap:=fun c P=>by rw[Cp.1 P];show e<=V.D.cap;omega
 have p:min (Alz V.D.now) (e*512)=e*512:=Nat.min_eq_right X
 have v:(Ch.cut e).ap V.D.now=V.D.now.take (e*512):=by
  show V.D.now.take (min (Alz V.D.now) (e*512))=_;rw[p]
 have l:∀w,w=V.D.now∨w=(Ch.cut e).ap V.D.now->Upn e (fun _ _=>False) V.D.now w:=fun w q=>by
  rcases q with rfl|rfl
  .exact Upn.refl _ _ _
  .rw[v];have B:Alz (V.D.now.take (e*512))=e*512:=by rw[BW];exact Hi X
   exact⟨.inr X,fun j hj=>.inl ⟨X,by
    unfold BS;rw[WK,WW,Hi X]⟩⟩
 have i:∀r:Dv×Y,Sy V.D [.cut e] 2 r->r.2≠0->∀b,GD V (({ V with D:=r.1,N:=b }:Vl),r.2) (k+2) fs fs fun _ _=>V.i=V.i:=fun r s z b=>by
  obtain⟨T,y,S,j,Q⟩:=s.Alf n o z;have u:=l r.1.now (by rw[Q];exact vz _ _ _ _);have a:=h.L.up (D':=Eh r.1) y.up s.cap u X (fun j t q=>q.elim);exact⟨s.cap,s.at_,.inr ⟨T,S,.inl ⟨y,h.ok.Alb b y.ok (s.sm h.sm),g,V.i,X,a.can,h.B.up u f (fun m _ j _ _ t q=>q)⟩⟩⟩
 generalize V.D.Ako (J (.cut e))=c at b s ⊢;obtain⟨E,d⟩:=c;by_cases q:d=0
 .subst q;rw[Aj Z]at s;rw[Ag (fun q=>q Z)];by_cases z:E.w.2=0
  .obtain⟨G,C⟩:=s.live n o z;have u:=l E.w.1.now (.inr C);refine⟨s.cap,s.at_,.inl ⟨z,g,nx,⟨h.L.up G s.cap u X (fun j t q=>q.elim),h.B.up u f (fun m _ j _ _ t q=>q),h.gen,h.next,?_,s.sm h.sm,X⟩,Z⟩⟩;show(V.N||decide (E.w.2≠0))=Ai;rw[h.good,z];rfl
  .exact i _ s z _
 .rw[Ag (show ¬(E,d).2=0 from q)]at s;rw[Aj (show(E,d).2≠0 from q)];exact i _ s q Af
inductive Lim(c K:Y):Ae M->Y->Prop
 |nil {k:Y}:k+2<=K->Lim c K [] k
 |cons {m:M} {L:Ae M} {k:Y}:k+c<=K->Lim c K L (k+c)->Lim c K (m::L) k
def kn{c K:Y}:∀(L:Ae M) (k:Y),k+c*Alz L+2<=K->Lim c K L k
 |[],k,h=>.nil (by rw[ET,Nat.mul_zero]at h;exact h)
 |m::L,k,h=>by
  have e:k+c*Alz (m::L)+2=k+c+c*Alz L+2:=by
   rw[CF,Nat.mul_add_one,Ud (c*Alz L) c,Lk k c]
  rw[e]at h;exact .cons (BA (BA (Oo _ (c*Alz L)) (Oo _ 2)) h) (kn L (k+c) h)
def GA.trans{R r:Vl×Y}{k':Y}{a:Ae En}(h:GA V R k fs fs)(hk:k<=k')(h0:R.2≠0->r=R)(h1:∀g nx,R.2=0->VJ R.1 g nx k fs->GA R.1 r k' fs a):GA V r k' fs a:=by
 obtain⟨f,e,⟨v,g,nx,d⟩|⟨t,p,o⟩⟩:=h
 .rw[ite_self]at d;by_cases q:R.2=0
  .obtain⟨n,m,l⟩:=h1 g nx q d;exact⟨n.trans f,BA m e,l.imp id fun⟨j,w,i⟩=>⟨j,X,i⟩⟩
  .rw[h0 q];exact⟨f,e,.inl ⟨v,g,nx,by rw[Ag q];exact d.l hk⟩⟩
 .rw[h0 X];exact⟨f,e,.inr ⟨t,p,.inl ((o.elim id id).l hk)⟩⟩
def GA.l{r:Vl×Y}{k':Y}(h:GA V r k fs fs')(hk:k<=k'):GA V r k' fs fs':=
 ⟨h.1,h.2.1,h.2.2.imp (fun⟨a,g,nx,b⟩=>⟨a,g,nx,b.l hk⟩) fun⟨a,b,c⟩=>⟨a,b,c.imp (·.l hk) (·.l hk)⟩⟩
def vM{l:Ae Xt}{cap n:H}:(Ey l cap n).2≠190:=by
 unfold Ey;split
 .exact nofun
 .show(if _ then 2 else 220:Y)≠190;split<;>decide
def VJ.comp{K:Y}(r:K<=800000000){L:Ae M}{k:Y}(hL:Lim 20000 K L k):∀{V:Vl} {g nx:Y} {a:H},VJ V g nx k fs->GA V (Lr V a L) K fs fs:=by
 induction hL with
 |nil hk=>
  intro V g nx a h;exact h.trim.call.l hk
 |@cons m L k hk _ ih=>
  intro V g nx a h;have x:k+20000<=900000000:=BA hk (BA r Bc);have n:k+10000<=k+20000:=Xa Bc k;have p:k+10000<=900000000:=BA n x;have w:k<=900000000:=BA (Oo _ _) p;have o:k<=k+10000:=Oo _ _;have v:k+10000+10000<=k+20000:=Oq (Lk k 10000 10000)
  have d:GA V (Iu V a m) (k+10000) fs fs:=by
   unfold Iu;split
   .split
    .rename_i z;exact h.bad vM z o
    .exact h.move w m.g _
   .exact h.same o
  have f:GA V (OO (Iu V a m) a m) (k+20000) fs fs:=by
   refine d.trans n (fun q=>Zj q a m) fun t l j i=>?_;have e:Iu V a m=((Iu V a m).1,0):=Prod.ext Z j;rw[e,Zk];split
   .exact(i.move p m.g a).l v
   .exact i.same n
  unfold Lr
  exact f.trans hk (fun q=>Aj q) fun t l j i=>by
   rw[Ag (fun z=>z j)];exact ih i
def VJ.Aly(h:VJ V g nx k fs)(hk:k<=700000000){L:Ae M}(hL:Alz L<=16):GA V (Ls V L) (k+400000) fs fs:=by
 unfold Ls;split
 .rename_i z;refine h.bad (fun e=>?_) z (Oo _ _);obtain⟨_,_,⟨q,_⟩|⟨_,_,q⟩⟩:=h.put hk []
  .exact q e
  .have:(EK V []).1.D.dead=Af:=q.elim (fun q=>q.gone.dead) fun q=>q.gone.dead;rw[mA]at this;exact h.live (.inr this)
 .have q:20000*Alz L<=320000:=Nat.mul_le_mul_left 20000 hL;exact VJ.comp (K:=k+400000) (BA (Nat.add_le_add_right hk _) Bc) (kn L k (BA (Nat.add_le_add_right (Xa q k) 2) (by rw[Lk];exact Xa Bc k))) h
def sC{k:Y}(hk:k<2){a:H×Ae M}(h1:DS D k=J a)(h2:DS D (1-k)=Aa∨∃b,DS D (1-k)=J b/\b.1<a.1)(e:D.dead=Ai):HD D=(a.1,a.2,0):=by
 unfold HD;rw[Ag (by rw[e];decide)];rcases(show k=0∨k=1 by omega)with rfl|rfl
 .rw[h1];rw[show 1-0=1 from Z]at h2;rcases h2 with h2|⟨b,h2,d⟩
  .rw[h2];rfl
  .rw[h2];exact Aj d
 .rw[h1];rw[show 1-1=0 from Z]at h2;rcases h2 with h2|⟨b,h2,d⟩
  .rw[h2];rfl
  .rw[h2];exact Ag X
def zV{l:Ae M}{cap:H}(h:OkC l cap)(hs:FW l):MsOk l:=⟨fun m hm=>YJ ⟨h.may m hm,hs m hm⟩,by have:=h.len;omega,fun m hm=>by have:=(JU (h.may m hm)).1;omega⟩
def xD{ns:Ae Nt}(h:Wal.Good ns):∀n∈ns,n.mem.q/\Alz n.mem.g<=2000000:=fun n d=>by
 obtain⟨a,b⟩:=h n d
 have e:Alz n.mem.g<=120:=by
  unfold CJ Jf at a;split at a
  .split at a
   .rename_i q;exact(JU q).1
   .exact AH Z a
  .split at a
   .split at a
    .rename_i q;exact XJ q.1
    .exact AH Z a
   .exact AH Z a
 exact⟨⟨X,b⟩,X⟩
def Can.found(h:Can D g ms)(y:g<4611686018427387904):Finds D g ms (Fo (CQ D) g):=by
 obtain⟨m,a,nx,v,t,r,o,rfl,f⟩:=h.made;have n:=sC (k:=g%2) X v.Alm h.oth h.rest.dead
 have p:CQ D=CZ D (Mz D):=by
  unfold CQ;rw[Ag (by rw[h.rest.dead];decide)]
 have w:Alz a<=Du a:=by
  have:∀a:Ae (Ae Nt),Alz a<=Du a:=fun a=>by
   induction a with
   |nil=>exact BC _
   |cons l a ih=>rw[PA,CF];omega
  exact this a
 refine .some (nx:=nx) n ?_ X X (fun i e=>⟨zV (f i e).1 (f i e).2,fun _=>Si (f i e).1⟩) (fun d j=>⟨?_,xD (r d j).1⟩) X
 .unfold JX;rw[Ag (by unfold JI;omega),p,Ag (by show ¬D.dead=Af;rw[h.rest.dead];decide)];exact AF (fun x=>(x,0)) t
 .have:∀(a:Ae (Ae Nt)),d∈a->Alz d<=Du a:=fun a=>by
   induction a with
   |nil=>exact fun q=>by cases q
   |cons l a ih=>
    intro q;rw[PA];rcases List.mem_cons.1 q with rfl|q
    .omega
    .have:=ih q;omega
  have:=this a j;omega
def vZ(a:D.dead=Ai)(g:H):∃c,Fo (CQ D) g={ D with calls:=c }:=by
 unfold CQ;rw[Ag (by rw[a];decide)];exact⟨_,Z⟩
structure FellD(D:Dv)(k:Y)(fs:Ae En):Prop where
 gone:Gone D
 sm:Sm D k
 can:∃g ms,g<=k/\Can (Eh D) g ms/\Fil (Eh D) ms fs
def Fell.E(h:Fell V k fs):FellD V.D k fs:=⟨h.gone,h.ok.sm,h.can⟩
def Arc.calls{D':Dv}(h:Arc D g nx ms)(e:∃c,D'={ D with calls:=c }):Arc D' g nx ms:=by
 obtain⟨c,rfl⟩:=e;exact⟨⟨⟨h.rest.ok.cap,h.rest.ok.kept,h.rest.ok.now,h.rest.ok.keptM,h.rest.ok.nowM,h.rest.ok.pend⟩,h.rest.dead,h.rest.pend,h.rest.kept⟩,h.cap,h.made,h.oth⟩
def Agh(D:Dv)(c k:Y):DS { D with calls:=c } k=DS D k:=by
 have e:Right { D with calls:=c } k↔Right D k:=⟨fun⟨a,b,c,d⟩=>⟨a,b,c,d⟩,fun⟨a,b,c,d⟩=>⟨a,b,c,d⟩⟩;unfold DS;by_cases q:Right D k
 .rw[Aj q,Aj (e.2 q)];rfl
 .rw[Ag q,Ag (fun z=>q (e.1 z))]
def Can.calls{D':Dv}(h:Can D g ms)(e:∃c,D'={ D with calls:=c }):Can D' g ms:=by
 obtain⟨c,rfl⟩:=e;exact⟨⟨⟨h.rest.ok.cap,h.rest.ok.kept,h.rest.ok.now,h.rest.ok.keptM,h.rest.ok.nowM,h.rest.ok.pend⟩,h.rest.dead,h.rest.pend,h.rest.kept⟩,h.cap,h.made,by rw[Agh];exact h.oth,h.log⟩
def Can.opened(h:Can D g ms)(x:D.at_=0∨∃nx,Arc D g nx ms)(hf:Fil D ms fs)(p:Sm D k)(r:g+1<=k+40)(hk:k<=900000000):
 (CO (Fo (CQ D) g) ((g:H)+1) ms).1.cap=D.cap/\(CO (Fo (CQ D) g) ((g:H)+1) ms).1.at_<=D.at_/\
 (((CO (Fo (CQ D) g) ((g:H)+1) ms).2=0/\VJ ⟨(CO (Fo (CQ D) g) ((g:H)+1) ms).1,(g:H)+1,0,ms,Ai⟩ (g+1) 0 (k+40) fs)∨
  ((CO (Fo (CQ D) g) ((g:H)+1) ms).2=190/\D.at_≠0/\FellD (CO (Fo (CQ D) g) ((g:H)+1) ms).1 (k+40) fs)):=by
 have i:=(h.found X).E h.rest.ok p;obtain⟨c,m⟩:=vZ h.rest.dead (g:H);have n:=h.calls (D':=Fo (CQ D) g) ⟨c,m⟩;have v:D.at_=0∨∃nx,Arc (Fo (CQ D) g) g nx ms:=x.imp id fun⟨nx,q⟩=>⟨nx,q.calls ⟨c,m⟩⟩;have f:(Fo (CQ D) g).at_=D.at_:=by rw[m]
 have l:Fil (Fo (CQ D) g) ms fs:=hf.same (by rw[m]);have d:(Fo (CQ D) g).cap=D.cap:=by rw[m]
 generalize Fo (CQ D) g=E at i n v f l d ⊢;have e:(g:H)+1=((g+1:Y):H):=X;have w:=n.cap;have o:=n.ok.1;rw[e,<-f,<-d];rw[<-f]at v;have b:=aU (g:=g+1) n.rest (QP o X) o X;refine⟨b.cap,b.at_,?_⟩;by_cases z:(CO E ((g+1:Y):H) ms).2=0
 .obtain⟨a,u⟩:=n.saved X b z;exact .inl ⟨z,a,OY l o u (fun j t q=>by omega),Z,Z,Z,(b.sm i.2).l X,r⟩
 .rcases v with q|⟨nx,q⟩
  .exact AH (b.zero q) z
  .obtain⟨C,B,A,⟨G,I,y⟩,u⟩:=q.Alr X b z;exact .inr ⟨C,A,B,(b.sm i.2).l X,G,ms,X,y,OY l o u (fun j t q=>by omega)⟩
def zq{n:Y}(G:31<=n/\n<=4096):Finds (fresh n []) (-1) [] (CQ (fresh n []))/\(CO (CQ (fresh n [])) (-1+1) []).2=0/\VJ ⟨(CO (CQ (fresh n [])) (-1+1) []).1,-1+1,0,[],Ai⟩ 0 0 10 []/\(CO (CQ (fresh n [])) (-1+1) []).1.cap=n/\(CO (CQ (fresh n [])) (-1+1) []).1.at_=0:=by
 have v:Cat.Rest (fresh n []):=⟨jo X Bh Bh,Z,Z,Z⟩
 have d:∀k,¬Fi (fresh n []) k:=fun k h=>by
  unfold Fi at h;have:(fresh n []).now.length/512=0:=Nat.zero_div 512;omega
 have f:(fresh n []).dead=Ai:=rfl
 have j:HD (fresh n [])=(0,[],230):=by
  unfold HD;rw[Ag (by rw[f];exact Bool.false_ne_true)];have e:∀k,DS (fresh n []) k=Aa:=fun k=>Ag fun q=>d k q.has;rw[e,e];rfl
 have y:CQ (fresh n [])=fresh n []:=by
  unfold CQ Mz;rw[Ag (by rw[f];exact Bool.false_ne_true),Ag (d 0),Ag (d 1)];rfl
 have L:(-1+1:H)=((0:Y):H):=by decide
 have w:Finds (fresh n []) (-1) [] (CQ (fresh n [])):=.none (by rw[j]) (by rw[j]) (by show(0:Y)/512<=5;decide);rw[y]at w;rw[y,L];have p:OkC [] (n:H):=⟨Bc,Bh,HK.nil,⟨X,by simp[BY],HK.nil⟩⟩;have x:FW []:=fun m I=>by cases I
 have b:=aU (D:=fresh n []) (g:=0) v (QP p Bc) p (by show 10<=n;omega);have z:=b.zero Z;have r:∀t∈EM ((0:Y):H) (Cf []),Alz t=512:=Ti _;have C:=NQ _ (0%2*5) r;obtain⟨B,A⟩:=b.live v (Qr r (by rw[IG];show 0+5<=n;omega)) z;have E:∀i,i<5->(0%2*5+i+1)*512<=(CO (fresh n []) ((0:Y):H) []).1.now.length/\BS (CO (fresh n []) ((0:Y):H) []).1.now (0%2*5+i)=Jp ((0:Y):H) (Cf []) i:=fun i o=>b.has v C z XN (jM o)
 have a:(CO (fresh n []) ((0:Y):H) []).1.now.length=2560:=by
  rw[A,eE,eC _ _ _ r Z,Ag (fun e=>by have:=AF DQ e;rw[IG]at this;cases this),IG];rfl
 refine⟨w,z,⟨⟨B,by rw[b.cap];exact G.1,⟨[],[],⟨by show(0%2*5+5)*512<=(CO (fresh n []) ((0:Y):H) []).1.now.length;rw[a];decide,fun i o=>(E i o).2,Bc,by rw[b.cap];exact p,x⟩,⟨fun l j=>by(cases j),Z,Bc,.inl Z,fun k K=>absurd K (Uj k),fun k _ _ h=>?_⟩,Z,fun i _=>by rw[List.take_nil,b.cap];exact⟨p,x⟩⟩,fun i o h=>?_⟩,.nil,Z,Z,Z,(b.sm (k:=0) ⟨by simp[fresh],by simp[fresh],by simp[fresh],by simp[fresh]⟩).l Bc,BC _⟩,b.cap,sy_at b Z⟩
 .exfalso;have h:10+k<(CO (fresh n []) ((0:Y):H) []).1.now.length/512:=h;rw[a]at h;omega
 .exfalso;have h:(1-0%2)*5+i<(CO (fresh n []) ((0:Y):H) []).1.now.length/512:=h;rw[a]at h;omega
def VJ.calls(h:VJ V g nx k fs)(n:Y):VJ { V with D:=CZ V.D n } g nx (k+n) fs:=
 ⟨h.L.calls ⟨_,Z⟩,h.B.same Z,h.gen,h.next,h.good,SZ h.sm n,by have:=h.gk;omega⟩
def VJ.Ald(h:VJ V g nx k fs){i:Y}(hi:i<Alz V.i):CD V V.i[i].g=(V.i[i],0):=by
 obtain⟨a,l⟩:=h.L.ok;have d:=a.may _ (BL hi);unfold CD;rw[Ag h.live,Ag (fun q=>q d.1)]
 have e:V.i.find? (fun m=>decide (m.g=V.i[i].g))=J V.i[i]:=by
  cases hf:V.i.find? (fun m=>decide (m.g=V.i[i].g))with
  |none=>
   rw[List.find?_eq_none]at hf;exact AH (AM Z) (hf _ (BL hi))
  |some m=>
   have j:=List.mem_of_find?_eq_some hf;have f:m.g=V.i[i].g:=by simpa using List.find?_some hf
   rw[aN a.P j (BL hi) f]
 rw[e]
end
end
attribute [local irreducible] OW KW QW EX GW NV
section
open Pth Rec Srt Dsk Wal Cat Tar
section
variable{w w':Ad}{B vb db:Y}{V:Vl}{g nx k:Y}{fs:Ae En}
def uZ{x y:En}(h1:x.g=y.g)(h2:x.data=y.data):x=y:=by
 cases x;cases y;dsimp at h1 h2;rw[h1,h2]
def xT(h:VAt w B vb db V)(hv:VJ V g nx k fs)(hk:k<=700000000)(ai:∀w',Tm w w' B vty->Env w')(l:Ae En)(hl:Alz l<=1000000)(A:Av AB)(c:Y)(T:∀w',Tm w w' B vty->∃C,Sl w' C A (Df l))(bs:B<=w.heap.size):
 Bm eD 16 [.pointer (J ⟨vb,0,Aa⟩),.agg #[.slice A (Alz l) c]] w fun v w'=>v=.bool (decide (fs=l))/\(∃n,n<=100000/\VAt w' B vb db { V with D:=CZ V.D n })/\Tm w w' B vty:=by
 obtain⟨o1,o2⟩:=hv.L.ok;have bj:=o1.len;have ba:=hv.B.len;refine Bw Bh Z ntmps16 Bi Z ?_;refine(O 2) ?_;refine Dq Z Z Z ?_;rintro mb w1 bm bc K;refine(O 5∘Zc (yy (h.a K) X)) ?_;rintro _ w2⟨j,I⟩;obtain⟨A2,c2,rfl,_,bi⟩:=j.slice;refine(O 8) ?_;have h2:=(h.a K).a I;have bb:=bc.a I;have Q:Tm w w2 B vty:=Tm.Akj (K.trans I) _ _;refine(O 4)<|Zi (fun a6=>?_) fun a6=>?_
 .refine(O 4∘Bu) ?_;refine⟨?_,⟨0,Bc,h2⟩,Q⟩;rw[AN (fun e=>by rw[e]at ba;omega)]
 .refine(O 7)<|Lo (fun((i,n,wr):Y×Y×Ad)=>(i<=Alz l/\fs.take i=l.take i/\n<=5000*i/\VAt wr B vb db { V with D:=CZ V.D n }/\Tm w2 wr B vty,[(0,.pointer (J ⟨vb,0,Aa⟩)),(3,.pointer (J ⟨mb,0,Aa⟩)),(5,.slice A2 (Alz V.i) c2),(6,Bb i)],wr,Alz l-i)) (0,0,w2) ?_ ?_
  .exact⟨BC _,Z,BC _,h2,Tm.refl _ _ _⟩
  .rintro⟨i,n,wr⟩⟨hi,L,hn,S,tr⟩;refine(O 8)<|Zi (fun a9=>?_) fun a9=>?_
   .have r:i<Alz V.i:=X;have af:i<Alz fs:=X;have E:i<Alz l:=X;have W:i<Alz (V.i.map M.g):=by rw[Dl];exact r
    have q:=hv.calls n;have G:=q.Ald r;obtain⟨p,N⟩:=q.B.at_ r af;have a7:=MA o1 (BL r);have aj:fs.take (i+1)=fs.take i++[fs[i]]:=(CX af).symm;have ab:l.take (i+1)=l.take i++[l[i]]:=(CX E).symm;have a:fs=l->fs[i]=l[i]:=fun e=>by simp only[e]
    obtain⟨_,_,eA,_,a0⟩:=(tr.y j Bc).slice;cases eA;obtain⟨b,o,rfl,_,d⟩:=Wf a0 W;obtain⟨_,a5⟩:=T w (Tm.refl _ _ _);obtain⟨bl,ol,rfl,_,_⟩:=a5.flat (l:=l) (i:=i) (c:=2) (fun _=>rfl) Bc E;rw[Og]at d;have tw:=Q.trans tr;generalize a8:V.i[i]=m at d G p N a7;generalize bq:fs[i]=x at p N aj a;refine(O 9∘Zv (BR d)∘Zc (gO S q.ok X (ai _ tw) (fun w' t=>ai _ (tw.trans t)) m.g x.data m G (by rw[p];exact N) q.live)) ?_;rintro _ w3⟨rfl,h3,t3⟩;refine(O 7) ?_;have f:=tr.trans t3;obtain⟨_,_,bh,_,a3⟩:=(f.y j Bc).slice;cases bh;obtain⟨b3,o3,bf,_,al⟩:=Wf a3 W;cases bf;rw[Og,a8]at al;obtain⟨_,a4⟩:=T w3 (Q.trans f);obtain⟨bx,bn,bd,_,P⟩:=a4.flat (l:=l) (i:=i) (c:=2) (fun _=>rfl) Bc E;cases bd;have ao:=f.bk bb Bc;generalize l[i]=y at ab a P;refine(O 4∘Zq (by exact fun _=>BR al)∘O 1∘Zq (by exact fun _=>Bo ao)∘O 3∘Zq (by exact fun _=>BR (P 0 _ Z))∘O 2)<|Nh 43 (fun a1=>?_) fun a1=>?_
    .refine(O 13∘QW.nil) fun nq=>(O 5∘Bu) ?_;refine⟨?_,⟨n+m.p.toNat,X,?_⟩,Q.trans (f.trans (Tm.Akj (Be.drewN _ _) _ _))⟩
     .rw[AN (fun e=>a1 (by rw[p,a e]))]
     .rw[<-SY];exact h3.a (Be.drewN _ _)
    .refine(O 4∘Zqf 47∘O 2∘Zq (by exact fun _=>Bo ao)∘O 3∘Zq (by exact fun _=>BR (P 1 _ Z))∘O 2∘QW.nil) fun nq=>Zi (fun a2=>?_) fun a2=>?_
     .refine(O 4∘Bu) ?_;refine⟨?_,⟨n+m.p.toNat,X,?_⟩,Q.trans (f.trans (Tm.Akj (Be.drewN _ _) _ _))⟩
      .rw[AN (fun e=>a2 (by rw[a e]))]
      .rw[<-SY];exact h3.a (Be.drewN _ _)
     .refine(O 7)<|Lb ((i+1),(n+m.p.toNat),(w3.drewN nq)) ?_;refine⟨E,?_,X,?_,f.trans (Tm.Akj (Be.drewN _ _) _ _)⟩
      .rw[aj,ab,L,show x=y from uZ (by rw[<-p];exact Dd.1 a1) (Dd.1 a2)]
      .rw[<-SY];exact h3.a (Be.drewN _ _)
   .obtain rfl:i=Alz l:=X;rw[Dh X,Dh (Bq _)]at L;refine(O 5∘Bu) ?_;exact⟨by rw[AM L],⟨n,X,S⟩,Q.trans tr⟩
end
structure Ta where
 kind:H
 g:Bg
 content:Bg
 tow:H
 B:Ae En
 fA:Av AB
 fc:Y
 fa:H
 ks:Ae Ar
 kA:Av AB
 kk:Y
def Ta.cells(a:Ta):Bl:=[Bb a.kind,str a.g,str a.content,Bb a.tow,.slice a.fA (Alz a.B) a.fc,Bb a.fa,.slice a.kA (Alz a.ks) a.kk]
abbrev bH(l:Ae Ta):Bl:=l.flatMap Ta.cells
structure Ta.q(a:Ta):Prop where
 tow:-9223372036854775808<=a.tow/\a.tow<=9223372036854775807
 fa:-9223372036854775808<=a.fa/\a.fa<=9223372036854775807
 nil:a.kA=Aa->HP a.ks=[]
 klen:Alz a.ks<=140737488351232
structure Ta.Few(a:Ta)(most:H):Prop where
 g:Alz a.g<=200
 B:Alz a.B<=20
 content:200+min (Alz a.content:H) 20000<=most
 each:∀x∈a.B,Alz x.g<=200/\100+min (Alz x.data:H) 20000<=most
def GQ(l:Ae En)(a:Ta):Ae En:=if a.kind=0 then Db l ⟨a.g,a.content⟩else if a.kind=1 then Fs l a.g else if a.kind=5 then a.B.foldl Db l else l
section
variable{w w':Ad}
def jd{α:Type}{cells:α->Bl}{c C:Y}{A:Av AB}{l:Ae α}(d:Sl w C A (l.flatMap cells))(f:∀a,Alz (cells a)=c)(h0:0<c){i:Y}(hi:i<Alz l):
 ∃b o,A=J ⟨b,o,Aa⟩/\∀j u,(cells l[i])[j]? =J u->w.cell? ⟨b,o+i*c+j,Aa⟩=J u:=by
 obtain⟨b,o,e,_,h⟩:=d.flat f h0 hi;exact⟨b,o,e,h⟩
def few_s(d:Ae Ta)(most:H)(hm:0<=most/\most<=100000)(A:Av AB)(c C:Y)(w:Ad)(T:Sl w C A (bH d))(hl:Alz d<=140737488355328)(G:∀a∈d,∃C',Sl w C' a.fA (Df a.B)/\Alz a.B<=140737488355328)(hsz:∀a∈d,Alz a.g<=140737488355328/\Alz a.content<=140737488355328/\∀x∈a.B,Alz x.g<=140737488355328/\Alz x.data<=140737488355328):
 Bm eD 6 [.slice A (Alz d) c,Bb most] w fun v w'=>(∃b,v=.bool b/\(b=Af->200*(Alz d:H)<=most/\∀a∈d,a.Few most))/\w=w':=by
 refine Bw Bh Z ntmps6 Bi Z ?_;refine(O 14)<|Lo (fun((i,n))=>((i<=Alz d/\200*(i:H)<=n/\n<=most/\∀a∈d.take i,a.Few most),[(0,.slice A (Alz d) c),(1,Bb most),(5,Bb n),(6,Bb i)],w,Alz d-i)) (0,0) ?_ ?_
 .grind
 .rintro⟨i,n⟩⟨hi,ab,W,j⟩;refine(O 8)<|Zi (fun f=>?_) fun f=>?_
  .obtain⟨b,o,rfl,e⟩:=jd T (fun _=>rfl) (by decide:0<7) f;have r:d.take (i+1)=d.take i++[d[i]]:=Bh;obtain⟨C',B,I⟩:=G _ (BL f);obtain⟨P,N,K⟩:=hsz _ (BL f);generalize d[i]=a at e r B I P N K;refine(O 10∘Zv (BR (e 2 _ Z))∘O 13∘Zv (BR (e 1 _ Z))∘O 3)<|Zd 31 (fun a1=>?_) fun a1=>?_
   .refine(O 19∘Bu) ?_;simp
   .refine(O 4∘Zv (BR (e 4 _ Z))∘O 4)<|Zd 40 (fun a2=>?_) fun a2=>?_
    .refine(O 10∘Bu) ?_;exact⟨Bh,Z⟩
    .refine(O 5)<|Zi (fun a3=>?_) fun a3=>?_
     .refine(O 4∘Bu) ?_;exact⟨Bh,Z⟩
     .refine(O 6)<|Lo (fun((k,q))=>((k<=Alz a.B/\200*(i:H)+200<=q/\q<=most/\∀x∈a.B.take k,Alz x.g<=200/\100+min (Alz x.data:H) 20000<=most),[(0,.slice (J ⟨b,o,Aa⟩) (Alz d) c),(1,Bb (most:H)),(5,Bb (q:H)),(6,Bb i),(7,Bb k)],w,Alz a.B-k)) (0,(n+((200+min (Alz a.content) 20000:Y):H))) ?_ ?_
      .exact⟨BC _,X,X,Bh⟩
      .rintro⟨k,q⟩⟨hk,V,E,D⟩;refine(O 8∘Zv (BR (e 4 _ Z))∘O 3)<|Zi (fun g=>?_) fun g=>?_
       .obtain⟨L,o2,e2,l⟩:=jd B (fun _=>rfl) (by decide:0<2) g;have t:a.B.take (k+1)=a.B.take k++[a.B[k]]:=(CX g).symm;obtain⟨S,Q⟩:=K _ (BL g);generalize a.B[k]=x at l t S Q;have m:=e 4 _ Z;rw[e2]at m;refine(O 10∘Zv (BR m)∘O 3∘Zv (BR (l 1 _ Z))∘O 12∘Zv (BR m)∘O 3∘Zv (BR (l 0 _ Z))∘O 3)<|Zd 80 (fun b1=>?_) fun b1=>?_
        .refine(O 10∘Bu) ?_;exact⟨⟨Ai,Z,nofun⟩,Z⟩
        .refine(O 5)<|Zi (fun L=>?_) fun L=>?_
         .refine(O 4∘Bu) ?_;exact⟨⟨Ai,Z,nofun⟩,Z⟩
         .refine(O 7)<|Lb ((k+1),(q+((100+min (Alz x.data) 20000:Y):H))) ?_;refine⟨g,X,X,fun y p=>?_⟩;rw[t]at p;rcases CW.1 p with h|h
          .exact D y h
          .rw[Cp.1 h];exact⟨X,X⟩
       .obtain rfl:k=Alz a.B:=X;rw[Dh (Bq _)]at D;refine(O 7)<|Lb ((i+1),q) ?_;refine⟨f,X,E,fun y p=>?_⟩;rw[r]at p;rcases CW.1 p with h|h
        .exact j y h
        .rw[Cp.1 h];exact⟨X,X,X,D⟩
  .obtain rfl:i=Alz d:=X;rw[Dh (Bq _)]at j;refine(O 5∘Bu) ?_;exact⟨⟨Af,Z,fun _=>⟨X,j⟩⟩,Z⟩
def Ajl(l:Ae En)(x:En):Alz (Db l x)<=Alz l+1/\∀y∈Db l x,y∈l∨y=x:=by
 have i:∀(l:Ae En) (r:Ae En×Ar),Alz (l.foldl (Ht x) r).1+(!(l.foldl (Ht x) r).2).toNat<=Alz r.1+(!r.2).toNat+Alz l/\∀y∈(l.foldl (Ht x) r).1,y∈r.1∨y∈l∨y=x:=fun l=>by
  induction l with
  |nil=>grind
  |cons z l ih=>
   intro r;obtain⟨p,k⟩:=ih (Ht x r z)
   have j:Alz (Ht x r z).1+(!(Ht x r z).2).toNat<=Alz r.1+(!r.2).toNat+1/\∀y∈(Ht x r z).1,y∈r.1∨y=z∨y=x:=by
    obtain⟨o,d⟩:=r;unfold Ht;refine⟨?_,fun y a=>?_⟩
    .cases d<;>by_cases n:Gd x.g z.g<=0<;>by_cases m:Gd x.g z.g=0<;>simp[n,m]<;>omega
    .simp only[CW]at a;rcases a with(a|a)|a
     .exact .inl a
     .split at a
      .grind
      .cases a
     .split at a
      .grind
      .cases a
   refine⟨?_,fun y a=>?_⟩
   .rw[Lf,CF];omega
   .rcases k y a with q|q|q
    .rcases j.2 y q with q|q|q
     .exact .inl q
     .grind
     .exact .inr (.inr q)
    .grind
    .exact .inr (.inr q)
 obtain⟨h,g⟩:=i l ([],Ai);have e:l.foldl _ _=EP x l:=rfl;rw[e]at h g;unfold Db;generalize EP x l=f at h g;obtain⟨o,d⟩:=f;cases d
 .refine⟨?_,fun y a=>?_⟩
  .simp at h ⊢;omega
  .simp at a;rcases a with a|a
   .rcases g y a with q|q
    .cases q
    .exact q
   .exact .inr a
 .refine⟨?_,fun y a=>?_⟩
  .simp at h ⊢;omega
  .rcases g y a with q|q
   .cases q
   .exact q
def act_f{d b o:Y}{a:Ta}(h:Bk w d 40 a.cells)(e:a.fA=J ⟨b,o,Aa⟩):w.cell? ⟨d,4,Aa⟩=J (.slice (J ⟨b,o,Aa⟩) (Alz a.B) a.fc):=by
 rw[<-e];exact h.I Z
structure GoS(w w':Ad)(ab rb mb:Y)(a:Ta):Prop where
 x:Be w w'
 act:Bk w' ab 40 a.cells
 r:Bk w' rb 33 [.slice Aa 0 0]
 m:∃q,Bk w' mb 33 [q]
def GoS.a{w a b:Ad}{ab rb mb:Y}{t:Ta}(h:GoS w a ab rb mb t)(hx:Be a b):GoS w b ab rb mb t:=⟨h.x.trans hx,h.act.a hx,h.r.a hx,h.m.imp fun _ q=>q.a hx⟩
def GoS.put{w a b:Ad}{ab rb mb:Y}{t:Ta}{u:Ah}(h:GoS w a ab rb mb t)(hm:Mo a b [mb])(hb:Bk b mb 33 [u])(n1:ab≠mb)(n2:rb≠mb)(hz:w.heap.size<=mb):GoS w b ab rb mb t:=
 ⟨Bp h.x hm h.x.size Bf,h.act.j hm (by simpa using n1),h.r.j hm (by simpa using n2),u,hb⟩
def xA(l:Ae En)(hl:Alz l<=1000)(a8:∀y∈l,Alz y.g<=2000)(a:Ta)(bf:Alz a.g<=2000)(bh:Alz a.B<=20)(a0:∀x∈a.B,Alz x.g<=2000)(u:Ah)(w:Ad)(hG:DE w)(ho:Bn w 0 64 2 u (Alz l) (Df l))(C:Y)(a6:Sl w C a.fA (Df a.B)):
 Bm eD 11 [.agg #[u],.agg a.cells.toArray] w fun v w'=>(∃u',v=.agg #[u']/\Bn w' 0 64 2 u' (Alz (GQ l a)) (Df (GQ l a)))/\Be w w':=by
 obtain⟨A,c,rfl,_,a5⟩:=ho.slice;refine Bw Bh Z ntmps11 Bi Z ?_;refine(O 2) ?_;refine Dq Z Z Z ?_;rintro L w1 bd ao a4;refine Dq Z Z Z ?_;rintro W w2 bc al af;refine(Zn) ?_;rintro V w3 bb B P;refine(O 5) ?_;have K:=(ao.a af).a P;have a9:=al.a P;have G:=(a4.trans af).trans P;have l1:=ao.lt;have l2:=al.lt;have ai:=a5.a G;refine(O 8)<|Zi (fun c0=>?_) fun c0=>?_
 .refine(O 2∘Zv (BX K)∘O 5∘Zc (pC l X ⟨a.g,a.content⟩ A c _ _ (hG.a G) (by show Alz a.g<=_;omega) Bf ai)) ?_;rintro _ w4⟨T,rfl,g,f⟩;refine(Zs (B.a f) (hlt:=Bq _)) ?_;rintro w5 j d;refine(O 1∘Kv j) ?_;have e:GQ l a=Db l _:=Aj c0;rw[e]
  exact⟨⟨T,Z,Bn.base (Bn.j g d fun k p=>by
   obtain⟨_,l',n⟩:=g.K k p;simpa using n.ne (B.a f) Bc) X⟩,Bp (G.trans f) d (G.trans f).size Bf⟩
 .refine(O 5)<|Zi (fun c1=>?_) fun c1=>?_
  .refine(O 2∘Zv (BX K)∘O 2∘Zc (Ajm l X _ A c _ _ ai)) ?_;rintro _ w4⟨T,rfl,g,f⟩;refine(Zs (B.a f) (hlt:=Bq _)) ?_;rintro w5 j d;refine(O 1∘Kv j) ?_;have e:GQ l a=Fs l a.g:=(Ag c0).trans (Aj c1);rw[e]
   exact⟨⟨T,Z,Bn.base (Bn.j g d fun k p=>by
    obtain⟨_,l',n⟩:=g.K k p;simpa using n.ne (B.a f) Bc) fun k p=>BC _⟩,Bp (G.trans f) d (G.trans f).size (fun k p=>by simp at p;omega)⟩
  .refine(O 5)<|Zi (fun c5=>?_) fun c5=>?_
   .have S:∀i,i<=Alz a.B->Alz ((a.B.take i).foldl Db l)<=1000+i/\∀y∈(a.B.take i).foldl Db l,Alz y.g<=2000:=fun i=>by
     induction i with
     |zero=>exact fun _=>⟨hl,a8⟩
     |succ i ih=>
      intro h;obtain⟨i1,i2⟩:=ih X;rw[(CX (show i<Alz a.B by omega)).symm,PT];have hw:=Ajl ((a.B.take i).foldl Db l) a.B[i];refine⟨by show Alz (Db _ _)<=_;omega,fun y hy=>?_⟩;rcases hw.2 y hy with q|q
      .exact i2 y q
      .rw[q];exact a0 _ (BL _)
    have e5:GQ l a=a.B.foldl Db l:=(Ag c0).trans ((Ag c1).trans (Aj c5));have a2:W≠L:=X;have a1:V≠L:=X;refine(O 5)<|Lo (fun((i,u1,wr):Y×Ah×Ad)=>(i<=Alz a.B/\Bk wr L 33 [u1]/\Bk wr W 40 a.cells/\Bk wr V 33 [.slice Aa 0 0]/\Bn wr 0 64 2 u1 (Alz ((a.B.take i).foldl Db l)) (Df ((a.B.take i).foldl Db l))/\Be w wr,[(2,.pointer (J ⟨L,0,Aa⟩)),(3,.pointer (J ⟨W,0,Aa⟩)),(4,.pointer (J ⟨V,0,Aa⟩)),(5,Bb i)],wr,Alz a.B-i)) (0,(.slice A (Alz l) c),w3) ?_ ?_
    .exact⟨BC _,K,a9,B,ho.a G,G⟩
    .rintro⟨i,u1,wr⟩⟨hi,hm,ha,hr,o,hx⟩;refine(O 9)<|Zi (fun m=>?_) fun m=>?_
     .obtain⟨i1,i2⟩:=S i hi;have t:(a.B.take (i+1)).foldl Db l=Db ((a.B.take i).foldl Db l) a.B[i]:=by rw[(CX m).symm,PT];rfl
      have a3:=a0 _ (BL m);obtain⟨b5,o5,e4,_,aj⟩:=a6.Akz (l:=a.B) (i:=i) (c:=2) (fun _=>rfl) Bc m;generalize a.B[i]=x at t aj a3;generalize(a.B.take i).foldl Db l=ll at o t i1 i2;obtain⟨A5,ba,rfl,_,a7⟩:=o.slice;have s0:GoS w wr.drew W V L a:=⟨hx.trans (Be.drew wr),ha.a (Be.drew wr),hr.a (Be.drew wr),_,hm.a (Be.drew wr)⟩;have Q:=hm.a (Be.drew wr);refine KW.skip (El (KW.block ?_));refine PR (N:=8) (fun w'=>GoS w w' W V L a) Bi Z ?_;have D:=(s0:GoS w wr.drew W V L a);refine GW.val 1 Z Bi Bi Bi Z Z D (fun w' E=>Dw (off:=4) iV Z Z ti31 Z Z) ?_;refine GW.val 2 Z Bi Bi Bi Z Z D (fun w' E=>CV ip Z Z (act_f E.act e4)) ?_;refine GW.val 3 Z Bi Bi Bi Z Z D (fun w' E=>EX.move Z) ?_;refine GW.val 4 Z Bi Bi Bi Z Z D (fun w' E=>MT ip Eu Z Z X) ?_;refine GW.val 5 Z Bi Bi Bi Z Z D (fun w' E=>KY (l:=x.cells) iu Z Eu Z Z (aj w' E.x)) ?_;refine GW.new 0 Z Bi Z Z (Ke underlying33 Z bQ Z (Q) Z) ⟨D,fun D=>?_⟩;refine GW.call 6 Z Bi Z Z Z (pC ll X x A5 ba _ wr.drew (hG.a D.x) X (fun y hy=>by have:=i2 y hy;omega) (a7.a (Be.drew wr))) ?_;rintro _ w4⟨T,rfl,g,f⟩;refine⟨D.a f,fun D=>?_⟩;have I:Bn w4 0 64 2 T (Alz (Db ll x)) (Df (Db ll x)):=Bn.base g fun k p=>BC _;refine dz 7 Z Bi Z bQ Z Z Z (by first|rfl|(simp only[Hb,Hc,GZ,Hu,Bool.and_eq_true,Value.oneCell'];repeat (first|assumption|exact Bn.one Ck|constructor))) (Q.a f) (Bq _) ?_;rintro w5 j d;refine⟨D.put d j a2 a1 X,fun D=>?_⟩;refine(Yd∘O 6)<|Lb ((i+1),T,w5) ?_;dsimp only;rw[t]
      exact⟨m,j,D.act,D.r,Bn.j I d fun k p=>by
       obtain⟨_,l',n⟩:=I.K k p;simpa using n.ne (Q.a f) Bc,D.x⟩
     .obtain rfl:i=Alz a.B:=X;rw[Dh (Bq _),<-e5]at o;refine(O 4∘Zv (BX hm)∘Zs hr (hlt:=Bq _)) ?_;rintro w5 j d;refine(O 1∘Kv j) ?_
      exact⟨⟨u1,Z,Bn.j o d fun k p=>by
       obtain⟨_,l',n⟩:=o.K k p;simpa using n.ne hr Bc⟩,Bp hx d hx.size (fun k p=>by simp at p;omega)⟩
   .have e5:GQ l a=l:=(Ag c0).trans ((Ag c1).trans (Ag c5));refine(O 4∘Zv (BX K)∘Zs B (hlt:=Bq _)) ?_;rintro w5 j d;refine(O 1∘Kv j) ?_;rw[e5]
    exact⟨⟨_,Z,Bn.j (ho.a G) d fun k p=>by
     obtain⟨_,l',n⟩:=(ho.a G).K k p;simpa using n.ne B Bc⟩,Bp G d G.size (fun k p=>by simp at p;omega)⟩
end
end
section
open Pth Rec Srt Cat Dsk Wal
def yJ{n:Y}(h:1<=n/\n<=4096):Dsk.may (n:H) []:=by refine⟨X,X,by rfl,?_⟩;simp
def newN(n:Y)(h:1<=n/\n<=4096)(w:Ad):Bm eD 29 [Bb (n:H)] w fun v w'=>Be w w'/\∃b,v=.tuple #[.pointer (J ⟨b,0,Aa⟩),Bb 0]/\Ce w' w.heap.size b (fresh n []):=
 (new_s (n:H) X X w).mono fun v w'⟨p,e,h1,h2,h3⟩=>⟨h2,by
  rcases h3 with⟨q,_⟩|⟨_,b,h4,h5,h6⟩
  .exact AH (yJ h) q
  .grind⟩
end
section
open Pth Rec Srt Dsk Wal Cat Tar
section
open Bz
def Ajd(t:BM)(h:t≠[]):Alz (Bz.used t)<=Alz t:=
 ZS _ _ ((Bz.used_may h).2.imp fun {a b} q e=>by rw[e]at q;exact Nat.lt_irrefl _ q) fun x hx=>(Bz.mem_used t x).1 hx
def jf{α:Type}{f:α->Ae Ar}{c:Y}:∀(l:Ae α),(∀x∈l,Alz (f x)<=c)->Alz (l.flatMap f)<=c*Alz l
 |[],_=>Bq _
 |x::l,h=>by
  have:=jf l fun y hy=>h y (Gl _ hy);have:=h x (Ip ..);rw[Gk,Bx,CF,Nat.mul_add_one];omega
def Abk(p:Bz.Pl){n:Y}(a:p.q n)(o:n<=4)(hk:Alz p.C<=1):Alz (Bz.planBits p)<=1100:=by
 have i:=VO (m:=Alz p.v) p.C (BE (Alz p.v)) Hf (fun x d=>DX.2 d) a.lt;have j:=a.v;have r:=Ot j.2 hk
 have q:=jf (f:=Bz.dShow) (c:=169) p.v fun t h=>by
  have e:=a.len t h;have v:=a.G;have:=UK (fun x d=>((a.ok t h).pos x d).2) (fun l=>by rw[l]at e;simp at e;omega);omega
 unfold Bz.planBits;simp only[Bx,Bz.nb_length];omega
def Aab{s:BM}(h:Alz s=1):Alz (Bz.packS s (CY s))<=512:=by
 have d:s≠[]:=fun e=>by rw[e]at h;cases h
 have a:=Bz.enc_ne d;have m:=Bz.enc_len (Alz s) s (Bq _);obtain⟨o,n,j,_⟩:=Bz.listOf_len (Bz.enc s) a;obtain⟨i,f⟩:=aA s X d;have l:=QU _ i (Bz.listOf (Bz.enc s)) (Oq f.symm) j (Alz (Bz.listOf (Bz.enc s))) (Bq _);rw[DY]at l;have q:=bA (Bz.used (Bz.enc s));have t:=Ajd (Bz.enc s) a;have r:=Abk _ i X (by rw[f];unfold Bz.grpN;omega)
 have p:Alz (Bz.blocksB s (CY s))<=2000:=by
  unfold Bz.blocksB;rw[Ag d];unfold Bz.blkB;simp only[Bx,Bz.nb_length,CF];omega
 unfold Bz.packS;rw[Bz.pack_length,Bz.streamB_length];omega
end
def lu{p c:AI}(d:(BO [p]).2.2=Af)(f:Cw [p]=0):Ca ⟨[p],[c]⟩=2:=by
 have h:Fits ⟨[p],[c]⟩:=⟨f,by show 1<=8192;decide⟩;have a:=Zf h;rw[Aj d]at a;have j:=Aab (s:=[c]) Z;have i:=(ar (s:=[c]) (by show 1<=8192;decide)).1
 have e:Alz (BU ⟨[p],[c]⟩)=1024:=by
  unfold BU;rw[Bx,UV,a];unfold GP;show 512+(Alz (Bz.packS [c] (CY [c]))+511)/512*512=1024;omega
 unfold Ca;rw[e];rfl
structure VI(V:Vl)(g nx k:Y)(fs:Ae En):Prop extends VJ V g nx k fs where
 at_:V.D.at_=0
def GD.done{V:Vl}{r:Vl×Y}{k:Y}{fs fs':Ae En}{Q:Y->Y->Prop}(h:GD V r k fs fs' Q)(h0:V.D.at_=0):r.2=0/\∃g nx,VI r.1 g nx k fs'/\Q g nx/\r.1.D.cap=V.D.cap:=by
 obtain⟨i,j,⟨f,g,nx,e,d⟩|⟨_,a,_⟩⟩:=h
 .exact⟨f,g,nx,⟨e,X⟩,d,i⟩
 .exact AH h0 a
def PV(V:Vl)(k:Y):Prop:=(∃g nx fs,VJ V g nx k fs)∨(VOk V k/\(V.N=Af∨V.D.dead=Af))
def PV.ok{V:Vl}{k:Y}(h:PV V k):VOk V k:=h.elim (fun⟨_,_,_,q⟩=>q.ok) fun q=>q.1
def PV.l{V:Vl}{k k':Y}(h:PV V k)(hk:k<=k'):PV V k':=h.imp (fun⟨g,nx,fs,q⟩=>⟨g,nx,fs,q.l hk⟩) fun q=>⟨q.1.Ali hk,q.2⟩
def GA.pv{V:Vl}{r:Vl×Y}{k:Y}{fs fs':Ae En}(h:GA V r k fs fs'):PV r.1 k:=by
 obtain⟨_,_,⟨_,g,nx,q⟩|⟨_,_,q⟩⟩:=h
 .exact .inl ⟨g,nx,_,q⟩
 .exact .inr (q.elim (fun q=>⟨q.ok,.inr q.gone.dead⟩) fun q=>⟨q.ok,.inr q.gone.dead⟩)
def PV.move{V:Vl}{k:Y}(h:PV V k)(hk:k<=900000000)(p:BM)(a:H):PV (Gu V p a).1 (k+10000):=by
 rcases h with⟨g,nx,fs,q⟩|⟨f,d⟩
 .exact(q.move hk p a).pv
 .unfold Gu;have e:(CD V p).2=190:=by unfold CD;rw[Aj d]
  rw[Aj (by rw[e];decide)];exact .inr ⟨f.Ali (Oo _ _),d⟩
section
variable{V:Vl}{g nx k:Y}{fs:Ae En}
def vL{l:Ae Xt}{cap n s:H}(d:1<=n)(a:OkX l cap)(h:IQ l cap n s):Ey l cap n=(s,0):=by
 have q:1<=n/\OkX l cap/\∃s,IQ l cap n s:=⟨d,a,s,h⟩;have e:Ey l cap n=(q.2.2.choose,0):=AQ q;rw[e,ja h q.2.2.choose_spec]
def VI.Alp(h:VI V g nx k fs)(hk:k<=700000000)(x:En)(hx:Fits x){s:H}(n:1<=Ca x)(j:IQ (BY V.i) V.D.cap (Ca x) s)(hl:Alz V.i<=15):(EK V [x]).2=0/\∃g' nx',VI (EK V [x]).1 g' nx' (k+100000) (Db fs x)/\(EK V [x]).1.i=Cc M.g (mz ((s,Ca x),x)) V.i/\(EK V [x]).1.D.cap=V.D.cap:=by
 obtain⟨a,E⟩:=h.L.ok;have G:=hx.data
 have d:FC [x]=0:=by
  unfold FC;rw[Ag (fun q=>q hx.g),Ag X];rfl
 have e:∀m:M,Alz (Cc M.g m V.i)<=16:=fun m=>by
  rw[(jO (key:=M.g) m a.P).length_eq,CF];have:=TT (fun y:M=>decide (y.g≠m.g)) V.i;omega
 have v:Dm V.i ([x].map Er)=Cc M.g (Er x).mem V.i:=by rw[Nj a.P];rfl
 have r:=vL n a.a j
 have i:Fm V.D.cap (BY V.i) [] [x]=([(s,Ca x)],0):=by
  unfold Fm;rw[List.append_nil,r,Ag (fun q=>q Z)];rfl
 have t:EK V [x]=Go.Proofs.YtkmlafmjaeeanaaGreatDoor.putF V [x] [(s,Ca x)]:=by
  unfold EK;rw[Ag h.live];unfold Es;rw[d,Ag (fun q=>q Z)];unfold NC;rw[Ag (fun q=>q (TX.2 ⟨Bh,WT⟩))];unfold LF;rw[v,Ag (by have:=e (Er x).mem;omega)];unfold ND;rw[i,Ag (fun q=>q Z)]
 have p:Plac V.D.cap V.i [((s,Ca x),x)]:=⟨j.ok n a.a,fun z f=>by rw[Cp.1 f];exact hx,fun z f=>by rw[Cp.1 f]⟩;have o:Dm V.i (HL DJ [x] [(s,Ca x)])=Cc M.g (mz ((s,Ca x),x)) V.i:=by rw[Nj a.P];rfl
 obtain⟨C,g',nx',B,A,w⟩:=(h.toVJ.putF X (l:=[x]) (ps:=[(s,Ca x)]) Z p nofun (by rw[o];exact e _) (by show 1<=16;decide)).done h.at_;rw[t];exact⟨C,g',nx',B,A.trans o,w⟩
def yd{α:Type}{key:α->BM}{x y:α}(h:key x=key y):Cc key x [y]=[x]:=by
 have e:=(JK key x y).2 h;unfold Cc;rw[Ag X,Aj e]
structure Wake(V0 V1 V2 V3 V4:Vl):Prop where
 one:EK V0 [⟨[98],[50]⟩]=(V1,0)
 two:EK V1 [⟨[97],[49]⟩]=(V2,0)
 del:Lu V2 [98]=(V3,0)
 comp:∀L,L.Perm V3.i->Ls V3 L=(V4,0)
 ok0:VOk V0 10
 ok1:VOk V1 200000
 ok2:VOk V2 300000
 ok3:PV V3 400000
 may3:∀m∈V3.i,0<=m.start/\m.start<=5000/\0<=m.p/\m.p<=5000/\Alz m.g<=1000000
 ok4:VOk V4 800000
 mem:V4.i=[⟨[97],30,2,1,Ff [49]⟩]
 stands:Stands V4.D ⟨[97],30,2,1,Ff [49]⟩ ⟨[97],[49]⟩
 live:¬(V4.N=Af∨V4.D.dead=Af)
 find:CD V4 [97]=(⟨[97],30,2,1,Ff [49]⟩,0)
def wakes{r:Vl}(h0:VI r 0 0 10 [])(p:r.D.cap=60)(o:r.i=[]):∃V1 V2 V3 V4,Wake r V1 V2 V3 V4:=by
 have ca:Cw [97]=0:=by decide+kernel
 have cb:Cw [98]=0:=by decide+kernel
 have sa:(BO [97]).2.2=Af:=by decide+kernel
 have sb:(BO [98]).2.2=Af:=by decide+kernel
 have W:Ca ⟨[97],[49]⟩=2:=lu sa ca;have nb:Ca ⟨[98],[50]⟩=2:=lu sb cb;have fa:Fits ⟨[97],[49]⟩:=⟨ca,by show 1<=8192;decide⟩;have fb:Fits ⟨[98],[50]⟩:=⟨cb,by show 1<=8192;decide⟩
 have a5:IQ (BY r.i) r.D.cap (Ca ⟨[98],[50]⟩) 30:=by
  rw[o,p,nb];exact⟨⟨Bc,Bc,fun x hx=>by cases hx⟩,fun s G=>G.1⟩
 obtain⟨S,g1,bb,A,E,I⟩:=h0.Alp Bc ⟨[98],[50]⟩ fb (by rw[nb];decide) a5 (by rw[o];decide);rw[o,nb]at E;generalize a2:EK r [⟨[98],[50]⟩]=r1 at S A E I;obtain⟨V1,e1⟩:=r1;dsimp only at S A E I;subst S;have n:V1.i=[mz ((30,2),⟨[98],[50]⟩)]:=E
 have a4:IQ (BY V1.i) V1.D.cap (Ca ⟨[97],[49]⟩) 32:=by
  rw[n,I,p,W];refine⟨⟨Bc,Bc,fun x hx=>?_⟩,fun s G=>?_⟩
  .rw[Cp.1 hx];unfold apart;left;decide
  .have q:=G.2.2 (30,2) (Ip ..);have q1:=G.1;unfold apart at q;dsimp only at q;omega
 obtain⟨Q,g2,ba,l,C,c2⟩:=A.Alp Bc ⟨[97],[49]⟩ fa (by rw[W];decide) a4 (by rw[n];decide);rw[n,W]at C;generalize a1:EK V1 [⟨[97],[49]⟩]=r2 at Q l C c2;obtain⟨V2,e2⟩:=r2;dsimp only at Q l C c2;subst Q
 have j:V2.i=[mz ((32,2),⟨[97],[49]⟩),mz ((30,2),⟨[98],[50]⟩)]:=by
  rw[C]
  have e:Cg M.g (mz ((32,2),⟨[97],[49]⟩)) (mz ((30,2),⟨[98],[50]⟩))=-1:=by
   show Gd [97] [98]=-1;decide+kernel
  unfold Cc;rw[Aj e]
 have bc:¬(V2.N=Af∨V2.D.dead=Af):=l.live
 have ab:(CD V2 [98]).2=0:=by
  have:=l.Ald (i:=1) (by rw[j];decide);have e:V2.i[1]'(by rw[j];decide)=mz ((30,2),⟨[98],[50]⟩):=by simp only[j];rfl
  rw[e]at this;have this:CD V2 [98]=_:=this;rw[this]
 obtain⟨P,g3,T,h,m3,c3⟩:=(l.toVJ.Als Bc [98] ab).done l.at_;generalize a0:Lu V2 [98]=r3 at P h m3 c3;obtain⟨V3,e3⟩:=r3;dsimp only at P h m3 c3;subst P;have a:V3.i=[mz ((32,2),⟨[97],[49]⟩)]:=by rw[m3,j];rfl
 have aj:(EK V3 []).2=0:=by
  have o1:=h.L.ok.1;unfold EK;rw[Ag h.live];unfold Es;rw[Ag (fun q=>q Z)];unfold NC;rw[Ag (fun q=>q WT)];unfold LF;rw[Nj o1.P,Ag (by show ¬16<Alz V3.i;rw[a];decide)];unfold ND;rw[Fm,Ag (fun q=>q Z)];unfold putF;rw[Aj Z]
 have d:=h.Ald (i:=0) (by rw[a];decide);have a7:V3.i[0]'(by rw[a];decide)=mz ((32,2),⟨[97],[49]⟩):=by simp only[a];rfl
 rw[a7]at d;have d:CD V3 [97]=(mz ((32,2),⟨[97],[49]⟩),0):=d
 obtain⟨N,g4,a9,w,B,c4⟩:=(h.toVJ.Alo Bc [97] 30 (by rw[d]) (by
  rw[d,a,c3,c2,I,p];decide)).done h.at_
 rw[d,a]at B;generalize ao:Gu V3 [97] 30=r4 at N w B c4;obtain⟨V4,e4⟩:=r4;dsimp only at N w B c4;subst N
 have af:V4.i=[⟨[97],30,2,1,Ff [49]⟩]:=by
  have q:=yd (key:=M.g) (x:=({ mz ((32,2),⟨[97],[49]⟩)with start:=30 }:M)) (y:=mz ((32,2),⟨[97],[49]⟩)) Z
  have hz:({ mz ((32,2),⟨[97],[49]⟩)with start:=30 }:M)=⟨[97],30,2,1,Ff [49]⟩:=by
   unfold mz;dsimp only;rw[M.mk.injEq];refine⟨Z,Z,Z,?_,?_⟩
   .decide
   .exact Z
  refine B.trans (Eq.trans q ?_);rw[hz]
 obtain⟨K,g5,a8,t,m5,c5⟩:=w.toVJ.trim.done w.at_;generalize al:MP V4=r5 at t c5 K m5;obtain⟨V5,e5⟩:=r5;dsimp only at t c5 K m5;subst K;have f:V5.i=[⟨[97],30,2,1,Ff [49]⟩]:=m5.trans af;have v:=t.Ald (i:=0) (by rw[f];decide);have a6:V5.i[0]'(by rw[f];decide)=⟨[97],30,2,1,Ff [49]⟩:=by simp only[f];rfl
 rw[a6]at v
 have ai:Stands V5.D ⟨[97],30,2,1,Ff [49]⟩ ⟨[97],[49]⟩:=by
  have ef:Fs (Db (Db [] ⟨[98],[50]⟩) ⟨[97],[49]⟩) [98]=[⟨[97],[49]⟩]:=by decide+kernel
  have hf:=t.B;rw[ef,f]at hf;exact(hf.at_ (i:=0) Bc Bc).2
 refine⟨V1,V2,V3,V5,a2,a1,a0,fun L hL=>?_,h0.ok,(A.l Bc).ok,(l.l Bc).ok,.inl ⟨g3,T,_,h.l Bc⟩,fun m hm=>by have:=MA h.L.ok.1 hm;have:=JU (h.L.ok.1.may m hm);omega,(t.l Bc).ok,f,ai,t.live,v⟩;rw[a]at hL;have a3:=List.perm_singleton.1 hL;subst a3;unfold Ls;rw[Ag (fun q=>q aj)];have ea:Iu V3 30 (mz ((32,2),⟨[97],[49]⟩))=(V3,0):=Ag Bc
 have eh:OO (Iu V3 30 (mz ((32,2),⟨[97],[49]⟩))) 30 (mz ((32,2),⟨[97],[49]⟩))=(V4,0):=by
  rw[ea,Zk,Aj Bc];exact ao
 unfold Lr;rw[eh,Ag (fun q=>q Z)];exact al
end
end
section
open Pth Rec Srt Dsk Wal Cat Tar
section
variable{w w':Ad}{B vb db:Y}{V:Vl}{g nx k:Y}{fs:Ae En}
def uT(h:VAt w B vb db V)(hv:VJ V g nx k fs)(hk:k<=500000000)(E:Env w)(j:0<B)(af:B<=w.heap.size)(a:Ta)(ha:a.q)(aj:Alz a.g<=2000)(ao:Alz a.content<=140737488355328)(al:Alz a.B<=20)(I:∀x∈a.B,Alz x.g<=2000/\Alz x.data<=140737488355328)(C:Y)(hs:Sl w C a.fA (Df a.B)):
 Bm eD 10 [.pointer (J ⟨vb,0,Aa⟩),.agg a.cells.toArray] w fun v w'=>∃V' e,v=Bb ((e:Y):H)/\VAt w' B vb db V'/\GA V (V',e) (k+400000) fs (GQ fs a)/\Tm w w' B vty:=by
 obtain⟨G,o2⟩:=hv.L.ok;have Q:=G.len;have N:=ha.tow;have D:DE w:=E.mlen;refine Bw Bh Z ntmps10 Bi Z ?_;refine(O 2) ?_;refine Dq Z Z Z ?_;rintro ab w1 S ai d;refine(O 6) ?_;have t:=h.a d;have r:Tm w _ B vty:=Tm.Akj d _ _;refine(O 8)<|Zi (fun o=>?_) fun o=>?_
 .have n:=hv.put X [⟨a.g,a.content⟩];have f:GQ _ a=[⟨_,_⟩].foldl Db fs:=Aj o;refine(O 7∘Zc (Xn t hv.ok X (E.a d) j ⟨a.g,a.content⟩ Bf)) ?_;rintro _ A⟨rfl,l,i⟩;refine(O 2∘Bu) ?_;exact⟨_,_,Z,l,f▸n.l X,r.trans i⟩
 .refine(O 5)<|Zi (fun y=>?_) fun y=>?_
  .have n:=hv.delete X a.g;have f:GQ fs a=Fs fs a.g:=(Ag o).trans (Aj y);refine(O 5∘Zc (gz t hv.ok X (D.a d) j a.g X)) ?_;rintro _ A⟨rfl,l,i⟩;refine(O 2∘Bu) ?_;exact⟨_,_,Z,l,f▸n.l X,r.trans i⟩
  .refine(O 5)<|Zi (fun c2=>?_) fun c2=>?_
   .have n:=hv.move X a.g a.tow;have f:GQ fs a=fs:=(Ag o).trans ((Ag y).trans (Ag X));refine(O 7∘Zc (ZO t hv.ok X (D.a d) j a.g X a.tow X X)) ?_;rintro _ A⟨rfl,l,i⟩;refine(O 2∘Bu) ?_;exact⟨_,_,Z,l,by rw[f];exact n.l X,r.trans i⟩
   .refine(O 5)<|Zi (fun c3=>?_) fun c3=>?_
    .have f:GQ fs a=fs:=(Ag o).trans ((Ag y).trans (Ag X));refine(O 3∘Zc (fN PV (fun V k q=>q.ok) (fun V k p T hk q=>q.move X p T) (fun V k k' q h=>q.l h) t (.inl ⟨g,nx,fs,hv⟩) X (E.a d) j (fun m P=>by have:=MA G P;have:=JU (G.may m P);omega))) ?_;rintro _ A⟨L,hO,rfl,l,i⟩;refine(O 2) ?_;have n:=hv.Aly (L:=L) X (by rwa[hO.perm.length_eq]);refine(Bu) ?_;exact⟨_,_,Z,l,by rwa[f],r.trans i⟩
    .refine(O 5)<|Zi (fun c4=>?_) fun c4=>?_
     .have n:=hv.trim.call;have f:GQ fs a=fs:=(Ag o).trans ((Ag y).trans (Ag X));refine(O 3∘Zc (pd t hv.ok X)) ?_;rintro _ A⟨rfl,l,i⟩;refine(O 2∘Bu) ?_;exact⟨_,_,Z,l,by rw[f];exact n.l X,r.trans i⟩
     .refine(O 5)<|Zi (fun K=>?_) fun K=>?_
      .have n:=hv.put X a.B;have f:GQ fs a=a.B.foldl Db fs:=(Ag o).trans ((Ag y).trans (Aj K));refine(O 5∘Zc (aC t hv.ok X (E.a d) j a.B X a.fA a.fc C (hs.a d) (fun x W=>by have:=I x W;omega))) ?_;rintro _ A⟨rfl,l,i⟩;refine(O 2∘Bu) ?_;exact⟨_,_,Z,l,by rw[f];exact n.l X,r.trans i⟩
      .have f:GQ fs a=fs:=(Ag o).trans ((Ag y).trans (Ag K));refine(O 6∘Bu) ?_;exact⟨V,0,Z,t,by rw[f];exact hv.same X,r⟩
def lL(n:Y)(p:31<=n/\n<=4096)(w:Ad)(r:DE w)(f:0<w.heap.size):Bm eD 8 [Bb (n:H)] w fun v w'=>∃db vb V,v=.tuple #[.pointer (J ⟨db,0,Aa⟩),.pointer (J ⟨vb,0,Aa⟩)]/\VAt w' w.heap.size vb db V/\VI V 0 0 10 []/\V.D.cap=n/\V.i=[]/\Be w w':=by
 obtain⟨o,m,l,j,i⟩:=zq p;have e:(fresh n []).q:=jo X Bh Bh;have d:Sm (fresh n []) 0:=⟨by simp[fresh],by simp[fresh],by simp[fresh],by simp[fresh]⟩;refine Bw Bh Z ntmps8 Bi Z ?_;refine(O 8∘Zc (newN n X w)) ?_;rintro _ C⟨a,db,rfl,x⟩;refine(O 9) ?_;have y:=(lK x e d Bc (r.a a) f (by show 30<n;omega) Z o).mono fun v w' (q:_/\_)=>(⟨q.1.resolve_right fun z=>z.1 m,q.2⟩:(_/\_)/\_);refine(Zc y) ?_;rintro _ A⟨⟨_,vb,rfl,t⟩,h⟩;refine(O 29∘BF) ?_;exact⟨_,_,_,Z,t,⟨l,i⟩,j,Z,Tm.below a h a.size X⟩
end
section
variable{w w':Ad}
def Aic(w:Ad)(m:Env w)(d:0<w.heap.size):Bm eD 7 [] w fun v w'=>v=.bool Af/\Be w w':=by
 refine Bw Bh Z ntmps7 Bi Z ?_;refine(O 6∘Zc (lL 60 Bc w m.mlen d)) ?_;rintro _ w1⟨db,vb,V0,rfl,h0,S,c0,m0,g⟩;refine(O 8) ?_;obtain⟨V1,V2,V3,V4,W⟩:=wakes S c0 m0;have z1:=g.size;have a:∀w',Tm _ _ w.heap.size vty->Be w w':=fun w' t=>Tm.below g t X X;refine(O 5) ?_;have Q:=Xn h0 W.ok0 Bc (m.a g) d ⟨[98],[50]⟩ ⟨Bc,Bc⟩;rw[W.one]at Q;refine(Zc Q) ?_;rintro _ w2⟨rfl,h1,K⟩;refine(O 4) ?_;have P:=Xn h1 W.ok1 Bc (m.a (a _ K)) d ⟨[97],[49]⟩ Bh;rw[W.two]at P;refine(Zc P) ?_;rintro _ w3⟨rfl,h2,t2⟩;refine(O 3) ?_;have x:=K.trans t2;refine(O 1) ?_;have N:=gz h2 W.ok2 Bc (m.a (a _ x)).mlen d [98] Bc;rw[W.del]at N;refine(Zc N) ?_;rintro _ w4⟨rfl,h3,t3⟩;refine(O 3) ?_;have n:=x.trans t3;refine(O 1) ?_;have E:=fN _ (fun V k q=>q.ok) (fun V k p tt hk q=>q.move X p _) (fun V k k' q h=>q.l h) h3 W.ok3 Bc (m.a (a _ n)) d W.may3;replace E:=E.mono fun v w'⟨L,hO,q⟩=>(by rwa[W.comp L hO.perm]at q:v=Value.int _ ((0:Y))/\VAt _ _ _ _ V4/\Tm _ _ _ _);refine(Zc E) ?_;rintro _ w5⟨rfl,h4,t4⟩;refine(O 3) ?_;have f:=n.trans t4;refine(O 5∘Zc (gO h4 W.ok4 Bc (m.a (a _ f)) (fun w' t=>m.a (a _ (f.trans t))) [97] [49] _ W.find W.stands W.live)) ?_;rintro _ I⟨rfl,h5,T⟩;refine(O 7) ?_;have B:=f.trans T;refine(O 2∘Zv (by exact HJ (r:=[49]) Z Z)∘O 6) ?_;have C:=SI h5 (by rw[W.mem];decide)
 replace C:=C.mono fun v w' q=>(by
  have e:({ V4 with D:=CZ V4.D (2:H).toNat }:Vl).i=[⟨[97],30,2,1,Ff [49]⟩]:=W.mem;rwa[e]at q:Bn w' I.heap.size 60 5 v 1 (Dz [⟨[97],30,2,1,Ff [49]⟩])/\Be I w')
 refine(Zc C) ?_;rintro v7 w7⟨y,G⟩;obtain⟨A7,c7,rfl,_,A⟩:=y.slice;obtain⟨b,o,rfl,_,j⟩:=A.flat (l:=[(⟨[97],30,2,1,Ff [49]⟩:M)]) (i:=0) (c:=5) (fun _=>rfl) Bc Bc;refine(O 2∘Zv (BR (j 1 _ Z))∘O 4∘Bu) ?_;exact⟨by rw[AM Z],(a _ B).trans G⟩
end
end
section
open Pth Rec Srt Dsk Wal Cat Tar
def Fil.fits{D:Dv}{ms:Ae M}{fs:Ae En}(h:Fil D ms fs):∀x∈fs,Fits x:=by
 induction h with
 |nil=>exact fun x a=>by cases a
 |cons _ h2 _ ih=>
  intro x a;rcases List.mem_cons.1 a with q|q
  .rw[q];exact h2.fits
  .exact ih x q
def vE{D:Dv}{c:H}{ms:Ae M}{fs:Ae En}(h:Fil D ms fs)(o:OkC ms c):Alz fs<=16/\∀y∈fs,Alz y.g<=2000:=by
 have e:=o.len;have d:=h.len;exact⟨X,fun y a=>by have:=XJ (h.fits y a).g;omega⟩
def VJ.small{V:Vl}{g nx k:Y}{fs:Ae En}(h:VJ V g nx k fs):Alz fs<=16/\∀y∈fs,Alz y.g<=2000:=vE h.B h.L.ok.1
def VAt.tmx{w w':Ad}{B a db C:Y}{V:Vl}{p:Aw->Ar}(h:VAt w B a db V)(t:Tm w w' C p)(p1:p 85=Ai)(p2:p 5=Ai)(l:p 137=Ai)(j:p 4=Ai)(i:p 3=Ai)(f:p 9=Ai)(e:p 82=Ai)(d:p 60=Ai):VAt w' B a db V:=by
 obtain⟨r,⟨u,q,o⟩,m⟩:=h;exact⟨r.tm t p1 p2 l j i f,⟨u,t.bk q e,t.y o d⟩,m⟩
def Stt(w:Ad)(B db n k:Y)(fs:Ae En)(p:Ah)(x:Y):Prop:=
 (x=0/\∃vb j8 g nx,p=.pointer (J ⟨vb,0,Aa⟩)/\VAt w B vb db j8/\VJ j8 g nx k fs/\j8.D.cap=n)∨(x=190/\p=.pointer Aa/\∃D,Ce w B db D/\FellD D k fs/\D.cap=n)
section
variable{w:Ad}{B db n k g nx:Y}{D:Dv}{ms:Ae M}{fs:Ae En}
def Aac(h:Ce w B db D)(hC:Can D g ms)(hA:D.at_=0∨∃nx,Arc D g nx ms)(hf:Fil D ms fs)(hs:Sm D k)(hgk:g+1<=k+40)(hk:k<=700000000)(hG:DE w)(hgl:0<B):
 Bm eD 15 [.pointer (J ⟨db,0,Aa⟩)] w fun v w'=>(∃p,∃x:Y,v=.tuple #[p,Bb (x:H)]/\Stt w' B db D.cap (k+40) fs p x/\(D.at_=0->x=0))/\Tm w w' B Cb:=
 (lK h hC.rest.ok hs X hG hgl hC.cap hC.rest.dead (hC.found X)).mono fun v w'⟨q,t⟩=>by
  refine⟨?_,t⟩;obtain⟨c1,c2,c3⟩:=hC.opened hA hf hs hgk X;rcases q with⟨q1,vb,rfl,q2⟩|⟨q1,rfl,q2⟩
  .rcases c3 with⟨_,c3⟩|⟨c3,_⟩
   .exact⟨_,0,Z,.inl ⟨Z,vb,_,_,_,Z,q2,c3,c1⟩,fun _=>rfl⟩
   .omega
  .rcases c3 with⟨c3,_⟩|⟨c3,c5,c4⟩
   .exact AH c3 q1
   .exact⟨.pointer Aa,_,Z,.inr ⟨c3,Z,_,q2,c4,c1⟩,fun z=>absurd z c5⟩
def Acu(a:FellD D k fs)(h:Ce w B db (Eh D))(hk:k<=700000000)(l:DE w)(d:0<B):
 Bm eD 15 [.pointer (J ⟨db,0,Aa⟩)] w fun v w'=>(∃p,v=.tuple #[p,Bb ((0:Y):H)]/\Stt w' B db D.cap (k+40) fs p 0)/\Tm w w' B Cb:=by
 obtain⟨g,ms,o,m,j⟩:=a.can;have s:=a.sm
 exact(Aac h m (.inl a.gone.at_) j ⟨s.calls,s.pend,s.at_,s.keep⟩ X hk l d).mono fun v w'⟨⟨p,x,e,i,f⟩,t⟩=>⟨⟨p,by
  rw[f a.gone.at_]at e;exact e,by
  rw[f a.gone.at_]at i;exact i⟩,t⟩
def Abj{V:Vl}(h:VJ V g nx k fs)(a:H)(f:a<=9223372036854775807)(ks:Ae Ar)(e:Alz ks<=140737488351232):VJ { V with D:=(V.D.Akp a ks).1 } g nx k fs/\(V.D.Akp a ks).1.cap=V.D.cap:=by
 have d:=h.L.rest;unfold Dv.Akp;rw[d.dead,Ag Bh];split
 .exact⟨h,Z⟩
 .have s:=h.sm;exact⟨⟨⟨⟨⟨d.ok.cap,d.ok.kept,d.ok.now,d.ok.keptM,d.ok.nowM,d.ok.pend⟩,Z,d.pend,d.kept⟩,h.L.cap,h.L.made,h.L.oth⟩,h.B.same Z,h.gen,h.next,h.good,⟨s.calls,s.pend,by show a.toNat<=_;omega,BA e Bc⟩,h.gk⟩,Z⟩
end
def xB{V:Vl}{r:Vl×Y}{k:Y}{fs fs':Ae En}(h:GA V r k fs fs'):r.1.D.dead=decide (r.2=190):=by
 obtain⟨_,_,⟨q,g,nx,h⟩|⟨q,_,h⟩⟩:=h
 .rw[AN q];exact h.L.rest.dead
 .rw[AM q];exact h.elim (fun h=>h.gone.dead) fun h=>h.gone.dead
end
section
attribute [local irreducible] OR KR
open Fld Ust Pax Pth Tar
structure Fnd where
 at_:Y
 en:En
def Fnd.cells(x:Fnd):Bl:=[Bb (x.at_:H),str x.en.g,str x.en.data]
def Ns(l:Ae Fnd):Bl:=l.flatMap Fnd.cells
def vU(l:Ae Fnd)(x:Fnd):Ns (l++[x])=Ns l++[x.cells].flatten:=by simp[Ns]
def yp(a:Y)(s:Bg)(E:Alz s<=1000000000)(w:Ad)(r:Bk w a 9 [str s]):
 Sc 2 eD 84 [.pointer (J ⟨a,0,Aa⟩)] (fun i:Y=>[Bb (i:H),str (s.drop (i*512))]) [] (fun W=>Bk W a 9 [str s]) (fun xs=>xs=BE (Alz s/512)) (fun _=>True) (Alz s/512) w:=fun l g Jx W K L C n B D=>by
 have d:Bm eD 84 [.func (.yield l) #[] #[],.pointer (J ⟨a,0,Aa⟩)] W fun v W'=>(∃xs,xs=BE (Alz s/512)/\g xs W')∨(∃pre,True/\Jx pre W'):=by
  refine Bm.Aks 2 func84 Z ntmps84 Bi Z ?_;refine(O 5) ?_;refine qQ (fun(i:Y) (wr:Ad)=>i<=Alz s/512/\g (BE i) wr) (fun(i:Y) (wr:Ad)=>[(0,.func (.yield l) #[] #[]),(1,.pointer (J ⟨a,0,Aa⟩)),(3,Bb i)]) (fun(i:Y) (wr:Ad)=>wr) (fun(i:Y) (wr:Ad)=>Alz s/512-i) (0) (W) ⟨Z,Z,Z,Ay⟩ Z ?_ ?_
  .exact⟨BC _,D⟩
  .rintro i wr⟨G,m⟩;have I:=n _ wr m;refine(O 10) ?_;refine Kj Z (fun A=>?_) (fun A=>?_)
   .have j:∀(f:Ad),g (BE i) f->Qj eD 1 l [Bb (i:H),str (s.drop (i*512))] f fun v W'=>∃b,v=.bool b/\((b=Af/\g (BE (i+1)) W')∨(b=Ai/\Jx (BE i++[i]) W')):=fun f k=>
     YieldAt.mono (B (BE i) i f k (by rw[Hf];omega)) (by
      rintro e W'⟨v,rfl,⟨rfl,o,_⟩|⟨rfl,o⟩⟩
      .exact⟨_,Z,Af,Z,.inl ⟨Z,by rw[FT];exact o⟩⟩
      .exact⟨_,Z,Ai,Z,.inr ⟨Z,o⟩⟩)
    refine(O 10∘Rv (by exact LR eT Z Z X)) ?_;refine ry Z Z Z Z Z Z (j wr m) ?_;rintro _ q⟨y,rfl,p⟩;refine(O 2) ?_;rcases y with _|_
    .refine(O 1) ?_;refine IR<|Pq (.inr Z) Z Z Z ?_;rcases p with⟨h,_⟩|⟨_,h⟩
     .cases h
     .exact .inr ⟨_,Ay,h⟩
    .refine(O 8) ?_;refine qH (i+1) (q) ⟨Z,Z,Z,Ay⟩ Z ?_ X;rcases p with⟨_,h⟩|⟨h,_⟩
     .exact⟨X,h⟩
     .cases h
   .refine(O 1) ?_;refine KR.done<|Pq (.inl Z) Z Z Z ?_;exact .inl ⟨_,Z,by rw[show Alz s/512=i by omega];exact m⟩
 exact callsIn_wide.2 (d.2.mono fun e W'⟨v,x,t⟩=>⟨⟨v,x⟩,t⟩)
def ScI(s:Bg)(w:Ad)(B ob sb:Y)(pre:Bj)(W:Ad):Prop:=∃(l:Ae Fnd) (v:Ah),Bk W ob 53 [v]/\Bn W w.heap.size 66 3 v (Alz l) (Ns l)/\Alz l<=Alz pre/\(∀i∈pre,∀y,Hq (s.drop (i*512))=J y->⟨i,y⟩∈l)/\Bk W sb 9 [str s]/\Be w W/\B<=W.heap.size
def ScI.abd{s:Bg}{w:Ad}{B i g:Y}(j:w.heap.size<=B):Abd [] B (ScI s w B i g):=fun pre A C T h a d=>by
 obtain⟨l,v,r,q,p,o,n,f,m⟩:=h;exact⟨l,v,r.abd a d Bh,q.abd a d (fun k e=>by simp),p,o,n.abd a d Bh,Bp f a f.size (rS d (fun k e=>by cases e) j),BA m a.size⟩
def Aem(s:Bg)(hs:Alz s<=100000000)(w:Ad)(hG:Env w):
 Bm eD 50 [str s] w fun v w'=>(∃l:Ae Fnd,Bn w' w.heap.size 66 3 v (Alz l) (Ns l)/\Alz l<=Alz s/512/\∀i,i<Alz s/512->∀y,Hq (s.drop (i*512))=J y->⟨i,y⟩∈l)/\Be w w':=by
 refine Bm.Aks 3 func50 Z ntmps50 Bi Z ?_;refine(O 2) ?_;refine dO Z Z Z Z ?_;rintro sb w1 a6 Q P;refine(O 2) ?_;refine KR.scope (fun _ _ _ h=>h)<|(O 2∘Rm) ?_;rintro ob w2 a5 S o;refine(O 3∘Rv (by exact FZ Z Z)∘O 10) ?_;have x2:=P.trans o;have z1:=P.size;have z2:=o.size;have a7:=S.lt;refine qX Z (Nat.le_add_left _ _) func84 Bi Z Z Z Z Z (fun _ _ _=>rfl) (fun _ _ _=>rfl) (fun i:Y=>Bb (i:H)) (fun i:Y=>str (s.drop (i*512))) (fun k d=>by cases d) (yp sb s X w2 (Q.a o)) (ScI s w w2.heap.size ob sb) (fun c (pre:Bj) W=>False) (ScI.abd X) (fun c pre A B T h hm hT=>h.elim) (fun pre W h=>let ⟨_,_,_,_,_,_,K,_⟩:=h;K) (⟨[],_,S,Bn.nil _ _ _ _,Bq _,(fun i f=>by cases f),Q.a o,x2,Bq _⟩) ?_ ?_ ?_
 .rintro l pre x W⟨I,v,h1,L,h3,h4,K,p,h7⟩a3 a8;refine(O 4∘Rc (oi (s.drop (x*512)) (by rw[CA];omega) W (hG.a p))) ?_;rintro _ wa⟨⟨y,n,e,rfl,hy⟩,C⟩;refine(O 4∘Ra) ?_;rintro xb wb a4 a0 N;refine Xf Z Eu Z Z Z (by first|rfl|(simp only[Hb,Hc,GZ,Hu,Bool.and_eq_true,Value.oneCell'];repeat (first|assumption|exact Bn.one Ck|constructor))) (a0) (Bq _) ?_;rintro wc E al;refine(O 9) ?_;replace E:Bk wc xb 64 y.cells:=E;have m:Be W wc:=Bp (C.trans N) al (C.trans N).size (by simp;have:=C.size;omega);have af:=h1.a m;have r:=L.a m;have ab:=K.a m;have kc:KeepsOthers W wc:=(Mo.Akj m []).keeps (fun k d=>by cases d);have z6:=p.size;have zc:=m.size;have a2:=h1.lt;refine Kj Z (fun V=>?_) (fun V=>?_)
  .refine(O 1) ?_;refine KR.done ?_;refine fun _ _=>⟨kc,(fun k d=>by cases d),I,v,af,r,by rw[Bx];omega,fun i f z t=>?_,ab,p.trans m,BA h7 zc⟩;rcases CW.1 f with f|f
   .exact h4 i f z t
   .rw[Cp.1 f]at t;exact AH (hy z t).1 V
  .refine(O 4∘Rv (BX E)∘Rv (by exact LO (pl:=[(0,1),(1,2)]) (ks:=[0,1]) (zs:=[Bb 0,str [],str []]) iX VZ Bi Z Z Z)) ?_;refine dS (w.heap.size) Z Z (fun _=>rfl) Z underlying53 VZ Z Bc Bc Z Z (fun _=>rfl) (by first|rfl|assumption|(simp only[Hb,Hc,GZ,Hu,Bool.and_eq_true,Value.oneCell'];repeat (first|assumption|constructor))) ((p.trans m).size) (r) CB X ?_;rintro _ v2 W2 g a ao;have aj:ob∉v.ownBlock.toList:=fun q=>L.ne h1 Bc ob (by simpa using q) Z;have ai:sb∉v.ownBlock.toList:=fun q=>L.ne K Bc sb (by simpa using q) Z;have G:=af.j a aj;refine(Rt G (hlt:=Bq _)) ?_;rintro W3 a1 j;refine(O 2) ?_;refine KR.done ?_;have k1:KeepsOthers wc W2:=a.keeps (fun k d=>by obtain⟨_,q,hb⟩:=r.K k (by simpa using d);exact⟨_,_,hb⟩);have k2:KeepsOthers W2 W3:=j.keeps (fun k d=>by simp at d;subst d;exact⟨_,_,G⟩);have es:Ns I++[Bb (x:H),str y.g,str y.data]=Ns (I++[⟨x,y⟩]):=(vU I ⟨x,y⟩).symm;refine fun _ _=>⟨(kc.trans k1).trans k2,(fun k d=>by cases d),I++[⟨x,y⟩],v2,a1,?_,by rw[Bx,Bx,CL,CL];omega,fun i f z t=>?_,(ab.j a ai).j j (by simpa using(K.ne h1 Bc)),?_,BA h7 (BA zc (BA a.size j.size))⟩
   .rw[Bx,<-es];exact g.j j (fun k d=>by simp;exact fun z=>g.ne G Bc k d z.symm)
   .rcases CW.1 f with f|f
    .exact WR _ (h4 i f z t)
    .rw[Cp.1 f]at t ⊢;rw[(hy z t).2.1];exact List.mem_append_right _ (Cp.2 Z)
   .exact Bp (Bp (p.trans m) a (p.trans m).size (fun k d=>(r.lt k (FG.1 d)).1)) j (BA (p.trans m).size a.size) (fun k d=>by simp at d;omega)
 .rintro D xs W hD rfl⟨I,v,h1,L,h3,h4,K,p,h7⟩hK;refine(O 6) ?_;refine IR<|retM1 (.inr Z) Z Z (hK) Z Z ?_;rw[Hf]at h3;refine⟨⟨I,?_,h3,fun i f y hy=>h4 i (DX.2 f) y hy⟩,Be.putObj p X _⟩
  exact L.j (Mx W D _) (fun k d=>by
   simp only[Cp];rintro rfl;obtain⟨_,l,fr,q,_⟩:=L.K k d;rw[hK]at q;cases q)
 .exact fun D c pre W hD _ h=>h.elim
end
section
open Pth Rec Srt Dsk Wal Cat Tar
section
variable{w:Ad}{B db k:Y}{D:Dv}
def Acp(h:Ce w B db D)(C:D.q)(hs:Sm D k)(hk:k<=800000000)(hd:D.dead=Ai)(hG:∀w',Tm w w' B Cb->Env w'):
 Bm eD 22 [.pointer (J ⟨db,0,Aa⟩)] w fun v w'=>(∃(l:Ae Fnd) (u:Ah),v=.tuple #[u,Bb ((0:Y):H)]/\Bn w' w.heap.size 66 3 u (Alz l) (Ns l)/\Alz l<=4096/\∀i,i<Alz D.now/512->∀y,Hq (D.now.drop (i*512))=J y->⟨i,y⟩∈l)/\Ce w' B db (CZ D (Alz D.now/512))/\Tm w w' B Cb:=by
 have a2:=C.cap;have ao:=C.now;have a0:=C.nowM;obtain⟨n,hn⟩:∃n,n=Alz D.now/512:=⟨_,Z⟩;have cd:=Qt h C;rw[hd]at cd;rw[<-hn];refine Bw func22 Z ntmps22 Bi Z ?_;refine(O 9∘Zc (HQ h C)) ?_;rintro _ _⟨rfl,rfl⟩;refine(O 2∘Ci 10∘O 6∘Zc cd) ?_;rintro _ _⟨rfl,rfl⟩;refine(O 5∘Zn) ?_;rintro E wd K Q x;refine(O 5) ?_;have al:Bd wd w.heap.size E []:=Bd.new K Q;have cl:=Nv (h.a x) C;rw[<-hn]at cl;obtain⟨vk,vn,vp,vq,vs,a⟩:=h;have ld:=a.cells.lt;refine(Zc cl) ?_;rintro _ _⟨rfl,rfl⟩;refine(O 3)<|Lo (fun((i,wr):Y×Ad)=>(i<=n/\Bd wr w.heap.size E (D.now.take (i*512))/\Bk wr db 85 (Yx (CZ D i) vk vn vp vq)/\Mo w wr [db],[(0,.pointer (J ⟨db,0,Aa⟩)),(4,.pointer (J ⟨E,0,Aa⟩)),(14,Bb n),(15,Bb i)],wr,n-i)) (0,wd) ?_ ?_
 .exact⟨BC _,by rw[Ul,Oj];exact al,a.cells.a x,Mo.Akj x _⟩
 .rintro⟨i,wr⟩⟨hi,f,N,g⟩;have L:Dev wr B db (CZ D i) vk vn vp vq vs:=Dev.after a.lo a.cells g N a.kept a.now a.apart a.pend a.chs a.keep;refine(O 5)<|Zi (fun af=>?_) fun af=>?_
  .have hj:i<(CZ D i).now.length/512:=by
    show i<Alz D.now/512;omega
   have W:=aG L (QV C i) ((SZ hs i).small X) hd hj;rw[SY]at W;have ai:(i+1)*512<=Alz D.now:=X;have d:=VN D.now 0 i (by rw[EE];exact ai);rw[Ul,MW,EE]at d
   have A:Alz (BS D.now i)=512:=by
    unfold BS;rw[BW,CA];omega
   have a1:Alz (D.now.take (i*512))<=13000000:=by rw[BW];omega
   have T:(CZ D i).now=D.now:=rfl;rw[T]at W;generalize BS D.now i=sc at W d A;refine(O 12∘Zc W) ?_;rintro _ we⟨rfl,aj,I⟩;refine(O 12) ?_;have o:Mo w we [db]:=g.trans I;have P:Bd we w.heap.size E (D.now.take (i*512)):=f.j I Bv;refine(Ci 25∘O 4∘Zc (Wj w.heap.size E (D.now.take (i*512)) sc we P (fun q=>by rw[q]at A;cases A) X o.size)) ?_;rintro _ wf⟨⟨_,rfl⟩,t,r,_⟩;refine(O 6) ?_;rw[<-d]at t;refine Lb ((i+1),wf) ?_;exact⟨X,t,aj.cells.G r X,Mo.fresh (S:=[db]) (o.G r) (fun k hk _=>hk)⟩
  .obtain rfl:i=n:=X;rw[Dh X]at f;refine(O 3∘Zc (UA w.heap.size E D.now wr f X g.size)) ?_;rintro _ V⟨rfl,p⟩;have e:Mo w V [db]:=g.G p;have tm:∀w',Mo w w' [db]->Tm w w' B Cb:=fun w' hm=>⟨[db],hm,fun k hk=>by rw[Cp.1 hk];exact⟨a.lo,_,_,a.cells,Bc⟩⟩;refine(Zc (Aem D.now X V (hG V (tm V e)))) ?_;rintro u wh⟨⟨l,ab,a3,hf⟩,G⟩;refine(O 3∘BF) ?_;have m:=e.trans (Mo.Akj G _);exact⟨⟨l,u,Z,Bn.l ab e.size,X,fun j hj y hy=>hf j X y hy⟩,⟨vk,vn,vp,vq,vs,Dev.after a.lo a.cells m ((N.G p X).a G) a.kept a.now a.apart a.pend a.chs a.keep⟩,tm wh m⟩
end
def has_s(l:Ae En)(hl:Alz l<=1000000)(p:Bg)(u:Ah)(w:Ad)(E:Bn w 0 64 2 u (Alz l) (Df l)):
 Bm eD 24 [.agg #[u],str p] w fun v w'=>(∃s b,v=.tuple #[str s,.bool b]/\(b=Af/\(∃x∈l,x.g=p/\x.data=s)∨b=Ai/\∀x∈l,x.g≠p))/\Be w w':=by
 obtain⟨A,c,rfl,_,j⟩:=E.slice;refine Bw func24 Z ntmps24 Bi Z ?_;refine(O 2) ?_;refine Dq Z Z Z ?_;rintro C t r G f;refine(O 9)<|Lo (fun(i:Y)=>((i<=Alz l/\∀x∈l.take i,x.g≠p),[(1,str (p)),(2,.pointer (J ⟨C,0,Aa⟩)),(6,Bb i)],t,Alz l-i)) 0 ?_ ?_
 .exact⟨BC _,Bh⟩
 .rintro i⟨I,g⟩;refine(O 9)<|Zi (fun d=>?_) fun d=>?_
  .obtain⟨b,o,rfl,_,a⟩:=(j.a f).flat (l:=l) (i:=i) (c:=2) (fun _=>rfl) Bc d;have h:l.take (i+1)=l.take i++[l[i]]:=(CX d).symm;have e:=BL d;generalize l[i]=x at a h e;refine(O 10∘Zv (BR (a 0 _ Z))∘O 3)<|Zi (fun m=>?_) fun m=>?_
   .refine(O 7∘Zv (BR (a 1 _ Z))∘O 3∘BF) ?_;exact⟨⟨x.data,Af,Z,.inl ⟨Z,x,e,m,Z⟩⟩,f⟩
   .refine(O 7)<|Lb (i+1) ?_;refine⟨d,fun y n=>?_⟩;rw[h]at n;rcases CW.1 n with q|q
    .exact g y q
    .rw[Cp.1 q];exact m
  .obtain rfl:i=Alz l:=X;rw[Dh (Bq _)]at g;refine(O 6∘BF) ?_;exact⟨⟨[],Ai,Z,.inr ⟨Z,g⟩⟩,f⟩
end
section
open Pth Rec Srt Dsk Wal Cat Tar
structure Ovr(D j8:Dv)(k:Y)(Q:Y->Prop):Prop where
 ok:j8.q
 dead:j8.dead=Ai
 at_:j8.at_=0
 cap:j8.cap=D.cap
 sm:Sm j8 k
 up:Upn 4096 (fun j _=>Q j) D.now j8.now
 le:Alz D.now<=Alz j8.now
 keep:j8.keep=[]
section
variable{D j8:Dv}{k:Y}{Q Q':Y->Prop}
def Ovr.imp(h:Ovr D j8 k Q){k':Y}(hk:k<=k')(hi:∀j,Q j->Q' j):Ovr D j8 k' Q':=⟨h.ok,h.dead,h.at_,h.cap,h.sm.l hk,h.up.imp fun j _=>hi j,h.le,h.keep⟩
def Ovr.write(h:Ovr D j8 k Q){i:Y}(hi:i<D.cap){t:BM}(ht:Alz t=512):(j8.write (i:H) t).2=0/\Ovr D (j8.write (i:H) t).1 (k+1) fun j=>Q j∨j=i:=by
 have b:=Bt.write h.dead (i:=i) (t:=t) (by rw[h.cap];exact hi) ht
 have z:(j8.write (i:H) t).2=0:=by
  rcases b.out with⟨q,_⟩|⟨_,q,_⟩
  .exact q
  .exact AH h.at_ q
 have e:=b.now z;have e:(j8.write (i:H) t).1.now=(Ch.write i t).ap j8.now:=e;have a:=Wk (i:=i) h.ok.nowM ht 4096;refine⟨z,NR h.ok _ _,b.live z,?_,b.cap.trans h.cap,PF h.sm _ _,?_,?_,?_⟩
 .have:=b.at_;rw[h.at_]at this;exact Nat.le_zero.1 this
 .rw[e];refine(h.up.imp fun j t q=>.inl q).trans (a.imp fun j d q=>.inr ?_) h.le;rw[CP,Cp]at q;injection q
 .rw[e,Nw ht h.ok.nowM];exact BA h.le (Nat.le_max_left _ _)
 .rcases b.out with⟨_,_,_,_,_,q⟩|⟨_,q,_⟩
  .exact q.trans h.keep
  .exact AH h.at_ q
def Aju{i:H}{t:BM}(a:j8.dead=Ai)(hi:i<0∨(j8.cap:H)<=i):j8.write i t=(j8,191):=by
 unfold Dv.write;rw[Ag (by rw[a];decide),Aj hi]
def Ovr.stands(h:Ovr D j8 k Q){m:M}{x:En}(hs:Stands D m x)(hn:m.start+m.p<=4096)(hq:∀j:Y,m.start<=(j:H)->(j:H)<m.start+m.p->¬Q j):Stands j8 m x:=
 hs.up h.up hn fun j h1 h2 _ q=>hq j h1 h2 q
def Stands.behind{m:M}{x:En}(h:Stands D m x):(m.start.toNat+1)*512<=Alz D.now/\∃suf,D.now.drop (m.start.toNat*512)=BU x++suf:=by
 have a:=h.at_;have f:=a.has;have d:=a.pos;refine⟨BA (RX 512 (Xa d _)) f,(D.now.drop (m.start.toNat*512)).drop (Alz (BU x)),?_⟩;have e:=Hx (Alz (BU x)) (D.now.drop (m.start.toNat*512));rw[a.now]at e;exact e.symm
def VJ.over{V:Vl}{g nx:Y}{fs:Ae En}(h:VJ V g nx k fs):Ovr V.D (V.D.Akp 0 []).1 k (fun _=>False):=by
 have a:=h.L.rest;unfold Dv.Akp;rw[a.dead,Ag Bh,Ag Bc];have s:=h.sm;exact⟨⟨a.ok.cap,a.ok.kept,a.ok.now,a.ok.keptM,a.ok.nowM,a.ok.pend⟩,Z,Z,Z,⟨s.calls,s.pend,by show(0:H).toNat<=_;decide,by show Alz ([]:Ae Ar)<=_;decide⟩,Upn.refl _ _ _,Bq _,Z⟩
end
end
section
open Pth Rec Srt Dsk Wal Cat Tar
def SalA(w:Ad)(db vb mb:Y)(u:Ah)(fs:Ae En)(j8:Vl)(k:Y)(wr:Ad):Prop:=VAt wr w.heap.size vb db j8/\(∃g nx,VJ j8 g nx k fs)/\j8.D.cap=150/\Bk wr mb 33 [u]/\Bn wr 0 64 2 u (Alz fs) (Df fs)/\Be w wr
structure SalO(w:Ad)(db vb mb:Y)(u:Ah)(fs:Ae En)(j8:Vl)(k:Y)(Q:Y->Prop)(wr:Ad)(D:Dv):Prop where
 at_:VAt wr w.heap.size vb db { j8 with D:=D }
 ovr:Ovr j8.D D k Q
 map:Bk wr mb 33 [u]
 y:Bn wr 0 64 2 u (Alz fs) (Df fs)
 a:Be w wr
def Bn.Alu{w w':Ad}{B T b n:Y}{v:Ah}{l d:Bl}(h:Bn w B T 1 v n [])(o:Bk w b T l)(a:Bk w' b T d)(hl:Alz d=Alz l)(hm:Mo w w' [b]):Bn w' B T 1 v n []:=by
 refine⟨h.1,?_⟩;rcases h.2 with q|⟨g,p,rest,rfl,m,k,j,i,f⟩
 .exact .inl q
 .refine .inr ?_;by_cases e:g=b
  .subst e;obtain⟨_,rfl⟩:=o.det k;exact⟨g,_,_,Z,m,a,hl▸j,i,f⟩
  .exact⟨g,_,_,Z,m,k.j hm (by simpa using e),j,i,f⟩
def Ce.hurt{w w':Ad}{B i b:Y}{D:Dv}{l e:Bl}(h:Ce w B i D)(hk:D.keep=[])(g:Bk w b 4 l)(d:Bk w' b 4 e)(hl:Alz e=Alz l)(hm:Mo w w' [b])(j:B<=b):Ce w' B i D:=by
 obtain⟨p,o,n,m,k,a⟩:=h;have t:=Tm.set g hm j;have f:=a.keep;rw[hk]at f;refine⟨_,_,_,_,_,a.lo,t.bk a.cells Bc,t.y a.kept Bc,t.y a.now Bc,a.apart,t.y a.pend Bc,a.chs.tm t Bc Bc,?_⟩;rw[hk];exact Bn.Alu f g d hl hm
def Ail(n:Ae Ta)(gp:∀a∈n,a.q)(A:Av AB)(c C:Y)(wp:Y)(f7:wp<=255)(over:Ae H)(gn:∀x∈over,-9223372036854775808<=x/\x<=9223372036854775807)(Ao:Av AB)(co Co:Y)(w:Ad)(hG:Env w)(cn:0<w.heap.size)(hs:Sl w C A (bH n))(hl:Alz n<=140737488355328)(gc:Sl w Co Ao (over.map fun x=>Value.int .i64 x))(ie:Alz over<=140737488355328)
 (e7:∀a∈n,∃C',Sl w C' a.fA (Df a.B)/\Alz a.B<=140737488355328) (g5:∀a∈n,∃C',Sl w C' a.kA (HP a.ks)) (hsz:∀a∈n,Alz a.g<=140737488355328/\Alz a.content<=140737488355328/\∀x∈a.B,Alz x.g<=140737488355328/\Alz x.data<=140737488355328):
 Bm eD 5 [.slice A (Alz n) c,.int .u8 (wp:H),.slice Ao (Alz over) co] w fun v w'=>v=.bool Af/\Be w w':=by
 have fn:∀w',Be w w'->Bm eD 7 [] w' fun v fu=>v=.bool Af/\Be w fu:=fun w' hx=>(Aic w' (hG.a hx) (Kq cn hx.size)).mono fun _ _ h=>⟨h.1,Be.trans hx h.2⟩;have cf:=few_s n 20000 Bc A c C w hs hl e7 hsz;refine Bw func5 Z ntmps5 Bi Z ?_;refine(O 6)<|Lc (fun(d0:Ar)=>(d0=Ai->200*(Alz n:H)<=20000/\(∀a∈n,a.Few 20000)/\Alz over<=50,[(0,.slice A (Alz n) c),(1,.int .u8 wp),(2,.slice Ao (Alz over) co),(38,.bool d0)],w)) ?_ ?_
 .refine(O 2∘Zc cf) ?_;rintro _ _⟨⟨b,rfl,hb⟩,rfl⟩;refine(O 2) ?_;rcases b with _|_
  .refine(O 5∘Lm Af) ?_;exact nofun
  .refine(O 5∘Lm (decide (Alz over>50))) ?_;exact fun z=>⟨(hb Z).1,(hb Z).2,by have:=AR z;omega⟩
 .rintro d0 HU;refine Ga Z (fun fb=>?_) (fun fb=>?_)
  .refine(O 2∘Zc (fn w (Be.refl _))) ?_;rintro _ w1⟨rfl,bs⟩;refine(O 2∘Bu) ?_;exact⟨Z,bs⟩
  .obtain⟨ik,hu,h7⟩:=HU fb;refine(O 3∘Zc (lL 150 Bc w hG.mlen cn)) ?_;rintro _ w1⟨I,r,V0,rfl,h0,v0,e0,m0,bs⟩;refine(O 17∘Zn) ?_;rintro E w2 h9 b9 aj;refine(Zs b9 (hlt:=Bq _)) ?_;rintro w3 ht e6;refine(O 6) ?_;have z1:=bs.size;have x3:Be w w3:=Bp (bs.trans aj) e6 (bs.trans aj).size (fun k hk=>by simp at hk;omega);have x13:Be w1 w3:=Bp aj e6 aj.size (fun k hk=>by simp at hk;omega);refine Lc (fun((r,p,B,u,wr):Y×Vl×(Ae En)×Ah×Ad)=>(SalA w I r E u B p 100000000 wr,[(0,.slice A (Alz n) c),(1,.int .u8 wp),(2,.slice Ao (Alz over) co),(7,.pointer (J ⟨I,0,Aa⟩)),(8,.pointer (J ⟨r,0,Aa⟩)),(9,.pointer (J ⟨E,0,Aa⟩))],wr)) ?_ ?_
   .refine(O 1)<|Lo (fun((i,r,p,B,u,wr):Y×Y×Vl×(Ae En)×Ah×Ad)=>(i<=Alz n/\SalA w I r E u B p (10+800000*i) wr,[(0,.slice A (Alz n) c),(1,.int .u8 wp),(2,.slice Ao (Alz over) co),(7,.pointer (J ⟨I,0,Aa⟩)),(8,.pointer (J ⟨r,0,Aa⟩)),(9,.pointer (J ⟨E,0,Aa⟩)),(10,Bb i)],wr,Alz n-i)) (0,r,V0,([]),(.slice Aa 0 0),w3) ?_ ?_
    .exact⟨BC _,h0.a x13,⟨_,_,v0.toVJ⟩,e0,ht,Bn.nil _ _ _ _,x3⟩
    .rintro⟨i,r,p,B,u,wr⟩⟨hi,hv,⟨g,nx,T⟩,af,hm,ba,hx⟩;have g6:i<=100:=X;refine(O 8)<|Zi (fun f=>?_) fun f=>?_
     .obtain⟨b,o,rfl,_,cv⟩:=hs.Akz (cells:=Ta.cells) (l:=n) (i:=i) (c:=7) (fun _=>rfl) Bc f;have V:=cv wr hx;obtain⟨C',dv,_⟩:=e7 _ (BL f);obtain⟨C2,ew⟩:=g5 _ (BL f);obtain⟨z1,z2,z3,z4⟩:=hu _ (BL f);obtain⟨y1,y2,y3⟩:=hsz _ (BL f);have a8:=gp _ (BL f);generalize n[i]=a at cv V dv ew z1 z2 z3 z4 y1 y2 y3 a8;refine(O 8∘Zv (Dj a.cells V)∘Zn) ?_;rintro ab w4 c9 b8 a3;refine(Zs b8 (hlt:=Bq _)) ?_;rintro w5 b7 g4;refine(O 5) ?_;replace b7:Bk w5 ab 40 a.cells:=b7;have ca:Be wr w5:=Bp a3 g4 a3.size (fun k hk=>by simp at hk;omega);have x5:Be w w5:=hx.trans ca;have cc:=hv.a ca;have c7:=hm.a ca;have c4:=ba.a ca;have hR:=T.L.rest;have h6:=a8.tow;have ec:=a8.fa;obtain⟨ic,f0⟩:=T.small;refine(O 3)<|Zi (fun hF=>?_) fun hF=>?_
      .have eb:∀j v,([Bb a.fa,.slice a.kA (Alz a.ks) a.kk]:Bl)[j]? =J v->w5.cell? ⟨ab,0+5+j,Aa⟩=J v:=fun j v hj=>b7.I (by
        rcases j with _|_|j
        .exact hj
        .exact hj
        .simp at hj)
       refine(O 4∘Zv (Dj [Bb a.fa,.slice a.kA (Alz a.ks) a.kk] eb)∘Zc (lZ cc.E hR.ok a.fa ec.1 ec.2 a.kA a.kk C2 a.ks (ew.a x5) a8.nil a8.klen)) ?_;rintro _ w6⟨rfl,d6,t6⟩;refine(O 7)<|Lb ((i+1),r,({ p with D:=(p.D.Akp a.fa a.ks).1 }),B,u,w6) ?_;obtain⟨j1,j2⟩:=Abj T a.fa ec.2 a.ks a8.klen;obtain⟨uu,q1,q2⟩:=cc.at_;exact⟨f,⟨d6,⟨uu,t6.bk q1 Bc,t6.y q2 Bc⟩,cc.G⟩,⟨g,nx,j1.l X⟩,j2.trans af,t6.bk c7 Bc,t6.y c4 Bc,Tm.below x5 t6 x5.size (Bq _)⟩
      .refine(O 4∘Zv (BX b7)∘Zc (uT cc T X (hG.a x5) cn x5.size a a8 X y2 z2 (fun x hx=>⟨by have:=z4 x hx;omega,(y3 x hx).2⟩) C' (dv.a x5))) ?_;rintro _ w7⟨U2,e,rfl,f8,b6,t7⟩;refine(O 4) ?_;have b0:=t7.bk c7 Bc;have bj:=t7.y c4 Bc;have hr:=t7.bk b7 Bc;have x7:Be w w7:=Tm.below x5 t7 x5.size (Bq _);have hc:U2.D.dead=decide (e=190):=xB b6;have c6:U2.D.q:=b6.pv.ok.E;have b5:U2.D.cap=150:=b6.1.trans af;refine(Zv (BX b0)∘Zn) ?_;rintro qb w8 c8 gl cb;refine(Zs gl (hlt:=Bq _)) ?_;rintro w9 a5 g0;refine(O 3) ?_;replace a5:Bk w9 qb 33 [u]:=a5;have bc:Be w7 w9:=Bp cb g0 cb.size (fun k hk=>by simp at hk;omega);have x9:Be w w9:=x7.trans bc;have bx:=b0.a bc;have a9:=bj.a bc;have hq:=hr.a bc;have er:=f8.a bc;have ey:E≠qb:=by have:=b0.lt;have:w7.heap.size<=qb:=c8;omega
       refine Ld (fun((u2,ai,wa):Ah×(Ae En)×Ad)=>(ai=(if e=0∨e=190 then GQ B a else B)/\Bk wa qb 33 [u2]/\Bn wa 0 64 2 u2 (Alz ai) (Df ai)/\VAt wa w.heap.size r I U2/\Bk wa E 33 [u]/\Bn wa 0 64 2 u (Alz B) (Df B)/\Be w wa,[(0,.slice (J ⟨b,o,Aa⟩) (Alz n) c),(1,.int .u8 wp),(2,.slice Ao (Alz over) co),(7,.pointer (J ⟨I,0,Aa⟩)),(8,.pointer (J ⟨r,0,Aa⟩)),(9,.pointer (J ⟨E,0,Aa⟩)),(10,Bb i),(11,.pointer (J ⟨ab,0,Aa⟩)),(12,Bb e),(13,.pointer (J ⟨qb,0,Aa⟩))],wa)) ?_ ?_
       .refine Lc (fun(d:Ar)=>(d=decide (e=0∨e=190),[(0,.slice (J ⟨b,o,Aa⟩) (Alz n) c),(1,.int .u8 wp),(2,.slice Ao (Alz over) co),(7,.pointer (J ⟨I,0,Aa⟩)),(8,.pointer (J ⟨r,0,Aa⟩)),(9,.pointer (J ⟨E,0,Aa⟩)),(10,Bb i),(11,.pointer (J ⟨ab,0,Aa⟩)),(12,Bb e),(13,.pointer (J ⟨qb,0,Aa⟩)),(73,.bool d)],w9)) ?_ ?_
        .refine(O 4)<|Zd 70 (fun fi=>?_) fun fi=>?_
         .refine(O 4∘Lm Af) ?_;exact(AM (.inl fi)).symm
         .refine(O 4∘Lm (decide (e=190))) ?_;rw[decide_eq_decide];omega
        .rintro d rfl;refine Zi (fun hg=>?_) fun hg=>?_
         .refine(O 1∘Zv (BX bx)∘Zv (BX hq)∘Zc (xA B X f0 a X z2 (fun x hx=>by have:=z4 x hx;omega) u w9 (hG.a x9).mlen a9 C' (dv.a x9))) ?_;rintro _ S⟨⟨u5,rfl,bl⟩,ao⟩;refine(Zs (a5.a ao) (hlt:=Bq _)) ?_;rintro wc gg d8;refine(O 1) ?_;have tc:Tm S wc w.heap.size (fun p=>p==33):=Tm.set (a5.a ao) d8 (by have:=a5.lt;have:=x7.size;have:w7.heap.size<=qb:=c8;omega);refine(Lm (u5,(GQ B a),wc)) ?_
          exact⟨(Aj hg).symm,gg,Bn.j bl d8 (fun k hk=>by
           obtain⟨_,l',hw⟩:=bl.K k hk;simpa using hw.ne (a5.a ao) Bc),(er.a ao).tmx tc Bc Bc Bc Bc Bc Bc Bc Bc,(bx.a ao).j d8 (by simpa using ey),tc.y (a9.a ao) Bc,Tm.below (x9.trans ao) tc (x9.trans ao).size (Bq _)⟩
         .refine(O 1∘Lm (u,B,w9)) ?_;exact⟨(Ag hg).symm,a5,a9,er,bx,a9,x9⟩
       .rintro⟨u2,ai,wa⟩⟨cq,d3,a0,ep,d9,ek,xa⟩;refine(O 2)<|Ld (fun((u3,K,S):Ah×(Ae En)×Ad)=>(K=(if e=0 then GQ B a else B)/\Bk S E 33 [u3]/\Bn S 0 64 2 u3 (Alz K) (Df K)/\Bk S qb 33 [u2]/\Bn S 0 64 2 u2 (Alz ai) (Df ai)/\VAt S w.heap.size r I U2/\Be w S,[(0,.slice (J ⟨b,o,Aa⟩) (Alz n) c),(1,.int .u8 wp),(2,.slice Ao (Alz over) co),(7,.pointer (J ⟨I,0,Aa⟩)),(8,.pointer (J ⟨r,0,Aa⟩)),(9,.pointer (J ⟨E,0,Aa⟩)),(10,Bb i),(12,Bb e),(13,.pointer (J ⟨qb,0,Aa⟩))],S)) ?_ ?_
        .refine(O 4)<|Zi (fun cs=>?_) fun cs=>?_
         .refine(O 1∘Zv (BX d3)∘Zs d9 (hlt:=Bq _)) ?_;rintro S a6 ce;refine(O 1) ?_;have tb:Tm wa S w.heap.size (fun p=>p==33):=Tm.set d9 ce (by have:=b9.lt;omega);refine(Lm (u2,ai,S)) ?_;exact⟨by rw[cq,Aj (.inl cs),Aj cs],a6,tb.y a0 Bc,d3.j ce (by simpa using ey.symm),tb.y a0 Bc,ep.tmx tb Bc Bc Bc Bc Bc Bc Bc Bc,Tm.below xa tb xa.size (Bq _)⟩
         .refine(O 1∘Lm (u,B,wa)) ?_;exact⟨(Ag cs).symm,d9,ek,d3,a0,ep,xa⟩
        .rintro⟨u3,K,S⟩⟨b4,a6,c2,gk,dk,ds,xb⟩;have cd:=Qt ds.E c6;rw[hc]at cd;refine(O 4∘Zc cd) ?_;rintro _ _⟨rfl,rfl⟩;refine(O 2)<|Zi (fun ef=>?_) fun ef=>?_
         .have he:e≠190:=ef
          obtain⟨g2,bm,gb⟩:∃g2 bm,VJ U2 g2 bm (10+800000*i+400000) K:=by
           obtain⟨_,_,⟨_,g2,bm,q⟩|⟨q,_⟩⟩:=b6
           .exact⟨g2,bm,by rw[b4];exact q⟩
           .exact AH q he
          refine(O 6)<|Lb ((i+1),r,U2,K,u3,S) ?_;exact⟨f,ds,⟨g2,bm,gb.l X⟩,b5,a6,c2,xb⟩
         .have he:e=190:=Dd.1 ef;subst he;have b4:K=B:=b4;have cq:ai=GQ B a:=cq
          obtain⟨fsN,hfN,hF⟩:∃fsN,(fsN=K∨fsN=ai)/\FellD U2.D (10+800000*i+400000) fsN:=by
           obtain⟨_,_,⟨q,_⟩|⟨_,_,q⟩⟩:=b6
           .exact AH Z q
           .rcases q with q|q
            .exact⟨B,.inl b4.symm,q.E⟩
            .exact⟨_,.inr cq.symm,q.E⟩
          refine(O 4∘Zc (up_d ds.E c6)) ?_;rintro _ wc⟨rfl,hd,tc⟩;refine(O 4) ?_;have xc:Be w wc:=Tm.below xb tc xb.size (Bq _);have cu:=Acu hF hd X (hG.a xc).mlen cn;rw[b5]at cu;refine(Zc cu) ?_;rintro _ P⟨⟨p2,rfl,a4⟩,td⟩;refine(O 8) ?_;have bf:=tc.trans td;have xd:Be w P:=Tm.below xb bf xb.size (Bq _)
          obtain⟨vb3,U3,g3,nx3,rfl,h3,v3,c3⟩:∃vb3 U3 g3 nx3,p2=.pointer (J ⟨vb3,0,Aa⟩)/\VAt P w.heap.size vb3 I U3/\VJ U3 g3 nx3 (10+800000*i+400000+40) fsN/\U3.D.cap=150:=by
           rcases a4 with⟨_,q⟩|⟨q,_⟩
           .exact q
           .cases q
          have d7:=bf.bk a6 Bc;have bi:=bf.y c2 Bc;have gf:=bf.bk gk Bc;have dg:=bf.y dk Bc;obtain⟨A3,k3,rfl,_,_⟩:=bi.slice;have f4:∀w',Tm P w' w.heap.size vty->∃C,Sl w' C A3 (Df K):=fun w' t=>by obtain⟨_,_,eA,_,sl⟩:=(t.y bi Bc).slice;cases eA;exact⟨_,sl⟩
          have fc:∀w',Tm P w' w.heap.size vty->Env w':=fun w' t=>hG.a (Tm.below xd t xd.size (Bq _));have ch:=xT h3 v3 X fc K (by rw[b4];omega) A3 k3 f4 xd.size;refine(O 4∘Kw 92∘O 10∘Zv (BX d7)) ?_;rcases NX (fsN=K)with hE|hE
          .rw[AM hE]at ch;refine(Zc ch) ?_;rintro _ we⟨rfl,⟨nr,gq,ed⟩,te⟩;refine(O 14)<|Lb ((i+1),vb3,({ U3 with D:=CZ U3.D nr }),K,(.slice A3 (Alz K) k3:Ah),we) ?_;exact⟨f,ed,⟨g3,nx3,by rw[<-hE];exact(v3.calls nr).l X⟩,c3,te.bk d7 Bc,te.y bi Bc,Tm.below xd te xd.size (Bq _)⟩
          .have h4:=hfN.resolve_left hE;rw[AN hE]at ch;refine(Zc ch) ?_;rintro _ we⟨rfl,⟨nr,gq,ed⟩,te⟩;refine(O 2) ?_;have ge:=te.bk gf Bc;have e4:=te.bk d7 Bc;refine(O 2∘Zv (BX ge)∘Zs e4 (hlt:=Bq _)) ?_;rintro wh gt ce;refine(O 11) ?_;have th:Tm we wh w.heap.size (fun p=>p==33):=Tm.set e4 ce (by have:=b9.lt;omega);have xe:Be w we:=Tm.below xd te xd.size (Bq _);refine Lb ((i+1),vb3,({ U3 with D:=CZ U3.D nr }),ai,u2,wh) ?_;exact⟨f,ed.tmx th Bc Bc Bc Bc Bc Bc Bc Bc,⟨g3,nx3,by rw[<-h4];exact(v3.calls nr).l X⟩,c3,gt,th.y (te.y dg Bc) Bc,Tm.below xe th xe.size (Bq _)⟩
     .refine(O 1∘Lm (r,p,B,u,wr)) ?_;exact⟨hv,⟨g,nx,T.l X⟩,af,hm,ba,hx⟩
   .rintro⟨r,p,B,u,wr⟩⟨hv,⟨g,nx,T⟩,af,hm,ba,hx⟩;have hR:=T.L.rest;have e3:=T.over;refine(O 4∘Zc (lZ hv.E hR.ok 0 Bc Bc Aa 0 0 [] (.inl Z) (fun _=>rfl) Bc)) ?_;rintro _ w1⟨rfl,d1,t1⟩;refine(O 4) ?_;have x1:Be w w1:=Tm.below hx t1 hx.size (Bq _)
    have cz:∀{D:Dv} {W W':Ad},VAt W w.heap.size r I { p with D:=D }->∀{D':Dv},Ce W' w.heap.size I D'->Tm W W' w.heap.size Cb->VAt W' w.heap.size r I { p with D:=D' }:=fun h D' d t=>by
     obtain⟨uu,q1,q2⟩:=h.at_;exact⟨d,⟨uu,t.bk q1 Bc,t.y q2 Bc⟩,h.G⟩
    have s1:SalO w I r E u B p 100000000 (fun _=>False) w1 (p.D.Akp 0 []).1:=⟨cz hv d1 t1,e3,t1.bk hm Bc,t1.y ba Bc,x1⟩;refine(Zc (Aes wp f7 Ai w1)) ?_;rintro _ w2⟨rfl,aj⟩;refine(O 7) ?_;have s2:SalO w I r E u B p 100000000 (fun _=>False) w2 (p.D.Akp 0 []).1:=⟨s1.at_.a aj,s1.ovr,s1.map.a aj,s1.y.a aj,s1.a.trans aj⟩;generalize(p.D.Akp 0 []).1=D1 at s2;obtain⟨sec,hsec⟩:∃sec,sec=Rj wp Ai:=⟨_,Z⟩;have gd:Alz sec=512:=by rw[hsec];unfold Rj;exact Cn
    rw[<-hsec]
    have c1:∀{Q:Y->Prop} {k j:Y} {W W':Ad} {D:Dv},SalO w I r E u B p k Q W D->j<150->Ce W' w.heap.size I (D.write (j:H) sec).1->Tm W W' w.heap.size Cb->(D.write (j:H) sec).2=0/\SalO w I r E u B p (k+1) (fun x=>Q x∨x=j) W' (D.write (j:H) sec).1:=fun h hj d t=>by
     obtain⟨a1,a2⟩:=h.ovr.write (i:=_) (by rw[af];exact hj) gd;exact⟨a1,cz h.at_ d t,a2,t.bk h.map Bc,t.y h.y Bc,Tm.below h.a t h.a.size (Bq _)⟩
    refine Lc (fun((D2,wr):Dv×Ad)=>(SalO w I r E u B p 100000030 (fun j=>j<30) wr D2,[(2,.slice Ao (Alz over) co),(7,.pointer (J ⟨I,0,Aa⟩)),(8,.pointer (J ⟨r,0,Aa⟩)),(9,.pointer (J ⟨E,0,Aa⟩)),(16,str (sec))],wr)) ?_ ?_
    .refine(O 1)<|Lo (fun((i,D,wr):Y×Dv×Ad)=>(i<=30/\SalO w I r E u B p (100000000+i) (fun j=>j<i) wr D,[(2,.slice Ao (Alz over) co),(7,.pointer (J ⟨I,0,Aa⟩)),(8,.pointer (J ⟨r,0,Aa⟩)),(9,.pointer (J ⟨E,0,Aa⟩)),(16,str (sec)),(17,Bb i)],wr,30-i)) (0,D1,w2) ?_ ?_
     .exact⟨BC _,s2.at_,s2.ovr.imp (Bq _) (fun j h=>h.elim),s2.map,s2.y,s2.a⟩
     .rintro⟨i,D,wr⟩⟨hi,G⟩;refine(O 6)<|Zi (fun f=>?_) fun f=>?_
      .have cw:=PE G.at_.E G.ovr.ok (G.ovr.sm.small X) (i:H) X X sec X;refine(O 8∘Zc cw) ?_;rintro _ wa⟨rfl,da,ta⟩;refine(O 2) ?_;obtain⟨e0,o1⟩:=c1 G X da ta;refine(Ci 115 (e:=by exact fun z=>z e0)∘O 8)<|Lb ((i+1),((D.write (i:H) sec).1),wa) ?_;exact⟨f,o1.at_,o1.ovr.imp X (fun j h=>by omega),o1.map,o1.y,o1.a⟩
      .obtain rfl:i=30:=X;refine(O 1∘Lm (D,wr)) ?_;exact G
    .rintro⟨D2,w3⟩bb;refine(O 2) ?_;refine Xh (len:=150) Z Z iL ti4 Z Z Z X X ?_;rintro hb w4 c9 b8 a3;refine(O 7) ?_;have bh:SalO w I r E u B p 100000030 (fun j=>j<30) w4 D2:=⟨bb.at_.a a3,bb.ovr,bb.map.a a3,bb.y.a a3,bb.a.trans a3⟩;have b8:Bk w4 hb 4 ((BH 150 Ai).map Value.bool):=by rw[List.map_replicate];exact b8
     have em:=BA bb.a.size c9;refine Lc (fun((D3,hl,wr):Dv×(Ae Ar)×Ad)=>(SalO w I r E u B p 100000100 (fun j=>j<30∨hl.getD j Ai=Af) wr D3/\Alz hl=150/\Bk wr hb 4 (hl.map Value.bool),[(7,.pointer (J ⟨I,0,Aa⟩)),(8,.pointer (J ⟨r,0,Aa⟩)),(9,.pointer (J ⟨E,0,Aa⟩)),(18,.slice (J ⟨hb,0,Aa⟩) 150 150)],wr)) ?_ ?_
     .refine(O 1)<|Lo (fun((i,D,hl,wr):Y×Dv×(Ae Ar)×Ad)=>(i<=Alz over/\SalO w I r E u B p (100000030+i) (fun j=>j<30∨hl.getD j Ai=Af) wr D/\Alz hl=150/\Bk wr hb 4 (hl.map Value.bool),[(2,.slice Ao (Alz over) co),(7,.pointer (J ⟨I,0,Aa⟩)),(8,.pointer (J ⟨r,0,Aa⟩)),(9,.pointer (J ⟨E,0,Aa⟩)),(16,str (sec)),(18,.slice (J ⟨hb,0,Aa⟩) 150 150),(19,Bb i)],wr,Alz over-i)) (0,D2,(BH 150 Ai),w4) ?_ ?_
      .exact⟨BC _,⟨bh.at_,bh.ovr.imp (Bq _) (fun j h=>.inl h),bh.map,bh.y,bh.a⟩,Cn,b8⟩
      .rintro⟨i,D,hl,wr⟩⟨hi,G,cg,hh⟩;refine(O 8)<|Zi (fun f=>?_) fun f=>?_
       .obtain⟨b2,o2,rfl,_,hf⟩:=gc.at_ (by rw[Dl];omega);have ct:∀W,Be w W->W.cell? ⟨b2,o2+i,Aa⟩=J (Bb over[i]):=fun W hW=>XG hW (hf i _ (by rw[DV,BQ f];rfl));have bq:=gn _ (BL f);generalize over[i]=x at ct bq;rcases NX (0<=x/\x<150)with hx|hx
        .obtain⟨j,rfl⟩:=ES hx.1;have hj:j<150:=X;have cw:=PE G.at_.E G.ovr.ok (G.ovr.sm.small X) (j:H) X X sec X;refine(O 9∘Zv (BR (ct wr G.a))∘O 1∘Zc cw) ?_;rintro _ wa⟨rfl,da,ta⟩;refine(O 2) ?_;obtain⟨e0,o1⟩:=c1 G hj da ta;have ea:=ta.bk hh Bc;refine(EF 130 (e:=e0)∘O 6∘Zv (BR (ct wa o1.a))∘O 1∘Zt ea (hlt:=by rw[Dl];omega)) ?_;rintro S ck a6;refine(O 7) ?_;have tb:Tm wa S w.heap.size (fun p=>p==4):=Tm.set ea a6 em;have h5:(hl.map Value.bool).set j (.bool Af)=(hl.set j Af).map Value.bool:=by rw[List.map_set]
         have ck:Bk S hb 4 ((hl.set j Af).map Value.bool):=by rw[<-h5];exact ck
         have f6:Ce S w.heap.size I (D.write (j:H) sec).1:=o1.at_.E.hurt o1.ovr.keep ea ck (by rw[Dl,Dl,Hg]) a6 em;obtain⟨uu,q1,q2⟩:=o1.at_.at_;refine Lb ((i+1),((D.write (j:H) sec).1),(hl.set j Af),S) ?_;refine⟨f,⟨⟨f6,⟨uu,tb.bk q1 Bc,tb.y q2 Bc⟩,o1.at_.G⟩,o1.ovr.imp X (fun y h=>?_),tb.bk o1.map Bc,tb.y o1.y Bc,Tm.below o1.a tb o1.a.size (Bq _)⟩,by rw[Hg];exact cg,ck⟩;rcases h with(h|h)|rfl
         .exact .inl h
         .refine .inr ?_;rw[Cd]at h ⊢;rw[RQ];split
          .split
           .rfl
           .omega
          .exact h
         .refine .inr ?_;rw[Cd,RQ,Aj Z,Aj X];rfl
        .have e:D.write x sec=(D,191):=Aju G.ovr.dead (by rw[G.ovr.cap,af];omega);have cw:=PE G.at_.E G.ovr.ok (G.ovr.sm.small X) x bq.1 bq.2 sec X;rw[e]at cw;refine(O 9∘Zv (BR (ct wr G.a))∘O 1∘Zc cw) ?_;rintro _ wa⟨rfl,da,ta⟩;refine(O 2∘Ci 130 (e:=by show ¬(191:Y)=0;decide)∘O 8)<|Lb ((i+1),D,hl,wa) ?_;exact⟨f,⟨cz G.at_ da ta,G.ovr.imp X (fun j h=>h),ta.bk G.map Bc,ta.y G.y Bc,Tm.below G.a ta G.a.size (Bq _)⟩,cg,ta.bk hh Bc⟩
       .obtain rfl:i=Alz over:=X;refine(O 1∘Lm (D,hl,wr)) ?_;exact⟨⟨G.at_,G.ovr.imp X (fun j h=>h),G.map,G.y,G.a⟩,cg,hh⟩
     .rintro⟨D3,hl,w5⟩⟨N,cg,g9⟩;have cr:=Acp (D:=D3) N.at_.E N.ovr.ok N.ovr.sm X N.ovr.dead (fun w' t=>hG.a (Tm.below N.a t N.a.size (Bq _)));have ez:=N.ovr;refine(O 3∘Zc cr) ?_;rintro _ w6⟨⟨fl,ul,rfl,f5,ij,cp⟩,d6,t6⟩;refine(O 12) ?_;obtain⟨Al,cl,rfl,_,f2⟩:=f5.slice;have x6:Be w w6:=Tm.below N.a t6 N.a.size (Bq _);have g1:=t6.bk N.map Bc;have el:=t6.y N.y Bc;have g8:=t6.bk g9 Bc;have f9:=cz N.at_ d6 t6;refine(Ci 143∘O 5) ?_;obtain⟨o1,o2⟩:=T.L.ok;have ig:=o1.len;refine(Zc (SI f9 (by show Alz p.i<=_;omega))) ?_;rintro vm w7⟨dn,bn⟩;refine(O 8) ?_;have dn:Bn w7 w6.heap.size 60 5 vm (Alz p.i) (Dz p.i):=dn;obtain⟨Am,cm,rfl,_,f1⟩:=dn.slice;have x7:=x6.trans bn;have b0:=g1.a bn;have bj:=el.a bn;have g7:=g8.a bn;have f3:=f2.a bn;have dc:=T.B;refine Lo (fun((i,wr):Y×Ad)=>(i<=Alz p.i/\Be w7 wr,[(9,.pointer (J ⟨E,0,Aa⟩)),(18,.slice (J ⟨hb,0,Aa⟩) 150 150),(20,.slice Al (Alz fl) cl),(22,.slice Am (Alz p.i) cm),(23,Bb i)],wr,Alz p.i-i)) (0,w7) ?_ ?_
      .exact⟨BC _,Be.refl _⟩
      .rintro⟨i,wr⟩⟨hi,dp⟩;refine(O 8)<|Zi (fun f=>?_) fun f=>?_
       .obtain⟨b,o,rfl,_,cv⟩:=f1.Akz (cells:=M.cells) (l:=p.i) (i:=i) (c:=5) (fun _=>rfl) Bc f;have V:=cv wr dp;have d5:=BL f;generalize p.i[i]=m at V d5;refine(O 8∘Zv (Dj m.cells V)∘Zn) ?_;rintro xb wa h8 hp eo;refine(Zs hp (hlt:=Bq _)) ?_;rintro S ee e5;refine(O 3) ?_;replace ee:Bk S xb 60 m.cells:=ee;have fr:Be wr S:=Bp eo e5 eo.size (fun k hk=>by simp at hk;omega);have df:=dp.trans fr;obtain⟨y,hy,d4,c5⟩:=dc.mem d5;have gs:=MA o1 d5;obtain⟨st,a4⟩:∃st:Y,m.start=(st:H):=⟨m.start.toNat,X⟩;obtain⟨sc,hsc⟩:∃sc:Y,m.p=(sc:H):=⟨m.p.toNat,X⟩;rw[af,a4,hsc]at gs;have ib:=T.small;refine(Zv (BX (b0.a df))∘O 2∘Zc (has_s B X m.g u S (bj.a df))) ?_;rintro _ wc⟨⟨sd,bd,rfl,hn⟩,en⟩;refine(O 15) ?_
        obtain⟨rfl,rfl⟩:bd=Af/\sd=y.data:=by
         rcases hn with⟨q,z,hz,e1,e2⟩|⟨_,q⟩
         .refine⟨q,?_⟩;have:=aN (key:=En.g) (Tc dc.keys o1.P) hz hy (e1.trans d4);rw[<-e2,this]
         .exact AH d4.symm (q y hy)
        have eh:=df.trans en;have cx:=ee.a en;have al:∀W,Be wc W->W.cell? ⟨xb,1,Aa⟩=J (Bb (st:H)):=fun W hW=>by rw[<-a4];exact(cx.a hW).I Z
        have d2:∀W,Be wc W->W.cell? ⟨xb,2,Aa⟩=J (Bb (sc:H)):=fun W hW=>by rw[<-hsc];exact(cx.a hW).I Z
        refine Lc (fun((fd,P):Ar×Ad)=>((Fnd.mk st y∈fl->fd=Af)/\Be wc P,[(9,.pointer (J ⟨E,0,Aa⟩)),(18,.slice (J ⟨hb,0,Aa⟩) 150 150),(20,.slice Al (Alz fl) cl),(22,.slice (J ⟨b,o,Aa⟩) (Alz p.i) cm),(23,Bb i),(24,.pointer (J ⟨xb,0,Aa⟩)),(25,str (y.data)),(26,.bool Af),(27,.bool fd)],P)) ?_ ?_
        .refine(O 1)<|Lo (fun((k,fd,P):Y×Ar×Ad)=>(k<=Alz fl/\(Fnd.mk st y∈fl.take k->fd=Af)/\Be wc P,[(9,.pointer (J ⟨E,0,Aa⟩)),(18,.slice (J ⟨hb,0,Aa⟩) 150 150),(20,.slice Al (Alz fl) cl),(22,.slice (J ⟨b,o,Aa⟩) (Alz p.i) cm),(23,Bb i),(24,.pointer (J ⟨xb,0,Aa⟩)),(25,str (y.data)),(26,.bool Af),(27,.bool fd),(28,Bb k)],P,Alz fl-k)) (0,Ai,wc) ?_ ?_
         .exact⟨BC _,(fun h=>by simp at h),Be.refl _⟩
         .rintro⟨k,fd,P⟩⟨hk,b1,L⟩;refine(O 8)<|Zi (fun a7=>?_) fun a7=>?_
          .obtain⟨b3,o3,rfl,_,e9⟩:=f3.Akz (cells:=Fnd.cells) (l:=fl) (i:=k) (c:=3) (fun _=>rfl) Bc a7;have et:fl.take (k+1)=fl.take k++[fl[k]]:=(CX a7).symm;generalize fl[k]=z at e9 et;refine(O 3) ?_;rcases fd with _|_
           .refine(O 6∘Zq (by exact fun _=>Dj z.cells (e9 _ ((eh.trans L).trans (Be.drewN P _))))∘O 1∘Zq (by exact fun _=>BR (al _ (L.trans (Be.drewN P _))))∘O 1∘Zq (by exact fun _=>Bo ((cx.a L).drewN _))∘O 2∘Zq (by exact fun _=>LO (pl:=[(0,1),(1,2)]) (ks:=[0,1]) (zs:=[Bb 0,str [],str []]) iX VZ Bi Z Z Z)∘Zq (by exact fun _=>pV iX Bi Bi Z Z (FE.one Bc io Z Z Z (KC io) (FE.str Bc iu Bi Eu Z Z (.cons Bc eT Z Z Z (Nr eT) (.cons Bc eT Z Z Z (Nr eT) FEqs.nil)) FE.nil)) Z)∘O 2∘QW.nil) fun nq=>(O 6)<|Lb ((k+1),_,(P.drewN nq)) ?_;refine⟨a7,fun h=>?_,L.trans (Be.drewN P nq)⟩;rw[et]at h;rcases CW.1 h with h|h
            .cases b1 h
            .rw[<-Cp.1 h];simp[d4]
           .refine(O 17∘QW.nil) fun nq=>(O 6)<|Lb ((k+1),Af,(P.drewN nq)) ?_;exact⟨a7,fun _=>rfl,L.trans (Be.drewN P nq)⟩
          .obtain rfl:k=Alz fl:=X;rw[Dh (Bq _)]at b1;refine(O 1∘Lm (fd,P)) ?_;exact⟨b1,L⟩
        .rintro⟨fd,P⟩⟨b1,L⟩;have ia:=cx.a L;have eg:=eh.trans L;have c0:Be w7 P:=eg;refine(O 8∘Zv (BR (al _ L))∘O 2)<|Lc (fun(it:Ar)=>((it=Af->∀j,st<=j->j<st+sc->hl.getD j Ai=Ai),[(9,.pointer (J ⟨E,0,Aa⟩)),(18,.slice (J ⟨hb,0,Aa⟩) 150 150),(20,.slice Al (Alz fl) cl),(22,.slice (J ⟨b,o,Aa⟩) (Alz p.i) cm),(23,Bb i),(24,.pointer (J ⟨xb,0,Aa⟩)),(25,str (y.data)),(26,.bool Af),(27,.bool fd),(29,.bool it)],P)) ?_ ?_
         .refine(O 1)<|Lo (fun((k,it):Y×Ar)=>(st<=k/\k<=st+sc/\(it=Af->∀j,st<=j->j<k->hl.getD j Ai=Ai),[(9,.pointer (J ⟨E,0,Aa⟩)),(18,.slice (J ⟨hb,0,Aa⟩) 150 150),(20,.slice Al (Alz fl) cl),(22,.slice (J ⟨b,o,Aa⟩) (Alz p.i) cm),(23,Bb i),(24,.pointer (J ⟨xb,0,Aa⟩)),(25,str (y.data)),(26,.bool Af),(27,.bool fd),(29,.bool it),(30,Bb k)],P,st+sc-k)) (st,Af) ?_ ?_
          .exact⟨Bq _,Oo _ _,fun _ j h1 h2=>absurd h2 X⟩
          .rintro⟨k,it⟩⟨ii,ih,cj⟩;refine(O 5∘Zv (BR (al _ L))∘O 1∘Zv (BR (d2 _ L))∘O 3)<|Zi (fun a7=>?_) fun a7=>?_
           .have ha:hl[k]? =J (hl.getD k Ai):=by rw[Cd,BQ X];rfl
            refine(O 6) ?_;rcases it with _|_
            .refine(O 14)<|Lb ((k+1),Ai) ?_;exact⟨X,X,fun h=>by cases h⟩
            .refine(O 3∘Zv (Bo (g7.a eg) (hi:=by rw[DV,ha];rfl))∘O 10)<|Lb ((k+1),(!(hl.getD k Ai))) ?_;refine⟨X,X,fun h j h1 h2=>?_⟩;rcases(by omega:j<k∨j=k)with q|rfl
             .exact cj Z j h1 q
             .simpa using h
           .obtain rfl:k=st+sc:=X;refine(O 1∘Lm it) ?_;exact cj
         .rintro it cj
          have e8:it=Af->fd=Af:=fun h=>b1 (by
           have es:=ez.stands c5 (by rw[a4,hsc];omega) (fun j h1 h2 q=>by
            rw[a4]at h1 h2;rw[hsc]at h2;rcases q with q|q
            .omega
            .rw[cj h j X X]at q;cases q)
           obtain⟨q1,fv,q2⟩:=es.behind;rw[a4,Oc]at q1 q2;exact cp st X y (by rw[q2];exact mE c5.fits fv))
          refine(O 7) ?_;rcases it with _|_
          .refine(O 13)<|Lb ((i+1),P) ?_;exact⟨f,c0⟩
          .obtain rfl:=e8 Z;refine(O 13)<|Lb ((i+1),P) ?_;exact⟨f,c0⟩
       .obtain rfl:i=Alz p.i:=X;refine(O 3∘Zc (fn wr (x7.trans dp))) ?_;rintro _ w8⟨rfl,cb⟩;refine(O 2∘Bu) ?_;exact⟨Z,cb⟩
end
section
open Go.ChangeShapes Go.WideShapes Go.ChangeAt
section
variable{j7:Type}{enc:Aw×Ah->j7}{P:AC}
def pg(hl:laidOutB P=Af){W W':Ad}(hx:Be W W'):∀{ts:Ae Aw} {vs:Bl} {ds:Ae (DataW j7)} {ps:Ae MemPlace},
 (∀t∈ts,P.readableRec t=Af/\t<P.types.size)->DataW.TrodAll enc P W 0 (fun _=>Af) Af ts vs ds ps->(∀p∈ps,p.block<W.heap.size)->
 DataW.TrodAll enc P W' 0 (fun b=>decide (b<W.heap.size)) Af ts vs ds ps
 |[],vs,ds,ps,_,h,_=>by
  obtain⟨rfl,rfl,rfl⟩:=trodAll_nil h;rfl
 |t::ts,vs,ds,ps,hr,h,hlt=>by
  obtain⟨v,vs',d,ds',p,q,rfl,rfl,rfl,h1,h2⟩:=trodAll_cons h;refine trodAll_cons_mk (WideElems.Trod_stays hl Bf (hr t Bh).2 h1 (fun x hx'=>hx.same Bf) Bf) ?_;exact pg hl hx Bf h2 Bf
def law_post{f:Func}{s:ChangeSpec}{W W':Ad}{args:Ap Ah}{ds gs:Ae (DataW j7)}{before:Ae MemPlace}{T:Aw}
 (hW:DataW.Whole enc P f.params.toList s.vars Ai W args.toList ds gs before) (hv:s.vars=[]) (a:s.fn j7 (ds++gs)={ results:=[.lit (.bool Af)],args:=ds }) (d:f.resultTypes=#[T]) (g:P.underlying T=J .bool)
 (hl:laidOutB P=Af) (h:∀t∈f.params.toList,P.readableRec t=Af/\t<P.types.size) (hx:Be W W'):s.post enc P f Ai Af Ai Ai W args (.bool Af) W':=by
 have j:=fun p i=>hW.lt p i;have e:=hW;obtain⟨p,q,k,l,rfl,_,_⟩:=hW;refine⟨_,_,_,[],p,[],e,?_,?_,?_,hx.frame _,Bf⟩
 .rw[a,d];exact trodAll_cons_mk (shut_bool g _) trodAll_mk0
 .rw[a];exact pg hl hx h k Bf
 .rw[a,hv];rfl
end
section
variable{j7:Type}{enc:Aw×Ah->j7}{P:AC}{W:Ad}{base:Y}{t e:Aw}{v:Ah}{d:DataW j7}{p:Ae MemPlace}{r:Reach}{b0:Y}
def Aji{k:AK}{n:H}(a:k.signed=Ai)(h:(Lit.int k n).wf=Af):∃m:Y,n=m/\m<=maxN k:=by
 cases k<;>simp[IntKind.signed]at a<;>(simp[Lit.wf,IntKind.min,IntKind.max,IntKind.signed,IntKind.bits]at h;exact⟨n.toNat,X,by simp[maxN];omega⟩)
def bY{n:H}(h:(Lit.int .i64 n).wf=Af):-9223372036854775808<=n/\n<=9223372036854775807:=by
 simp[Lit.wf,IntKind.min,IntKind.signed,IntKind.bits]at h;omega
def open_nat{k:AK}(ht:P.underlying t=J (.int k))(f:k.signed=Ai)(hval:Value.okWide P W r b0 t v)(g:DataW.Trod enc P W base (fun _=>Af) Af t v d p):∃m:Y,v=.int k (m:H)/\m<=maxN k:=by
 obtain⟨n,rfl,_,_,a⟩:=open_int ht hval g;obtain⟨m,rfl,h⟩:=Aji f a;grind
def nU{a:AB}{xs:Bl}(h:∀j u,xs[j]? =J u->W.cell? (a.add j)=J u):Sl W W.heap.size (J a) xs:=by
 by_cases l:xs=[]
 .exact .inl l
 .have m:0<Alz xs:=Bf;have g:=h 0 xs[0] (BQ m);have q:a.add 0=a:=by unfold Addr.add;simp
  obtain⟨b,o,k⟩:=a
  have f:k=Aa:=by
   unfold World.cell? at g;split at g
   .simp_all
   .grind
  subst f;refine .inr ⟨b,o,Z,World.block_lt_of_cell? W _ g,fun j u n=>?_⟩;have i:(⟨b,o,Aa⟩:AB).add j=⟨b,o+j,Aa⟩:=by unfold Addr.add;split<;>simp_all
  grind
def bX:∀{l:Ae (DataW j7)} {x:DataW j7},x∈l->∀n∈x.weights P e,n∈DataW.weightsAll P e l
 |y::l,x,hx,n,hn=>by
  simp[DataW.weightsAll,CW];rcases List.mem_cons.1 hx with rfl|hx
  .grind
  .exact .inr (bX hx n hn)
 |[],_,hx,_,_=>by grind
end
end
section
open Go.ChangeShapes Go.WideShapes Go.ChangeAt Go.Deep
def YN{α:Type}{cells:α->Bl}{c:Y}(hc:∀a,Alz (cells a)=c):∀(l:Ae α) (j:Y) (u:Ah),(l.flatMap cells)[j]? =J u->∃i r,∃hi:i<Alz l,r<c/\j=i*c+r/\(cells l[i])[r]? =J u
 |[],j,u,h=>by grind
 |a::l,j,u,h=>by
  rw[Gk]at h;by_cases hj:j<c
  .rw[FR Bf]at h;exact⟨0,j,Bh,hj,X,h⟩
  .rw[Io Bf,hc]at h;obtain⟨i,r,hi,hr,he,hu⟩:=YN hc l _ u h;exact⟨i+1,r,Bf,hr,Bf,Bf⟩
section
variable{j7:Type}{enc:Aw×Ah->j7}{P:AC}{W:Ad}{base:Y}{t e:Aw}{v:Ah}{d:DataW j7}{p:Ae MemPlace}{r:Reach}{b0:Y}
def lJ{α:Type}[Inhabited α](cells:α->Bl)(ok:α->Prop){c:Y}(G:∀a,Alz (cells a)=c)(ht:P.underlying t=J (.slice e))(hc:P.cellsOf e=c)
 (step:∀n cs x,DataW.trod enc P W base (fun _=>Af) Af n e cs=J x->(∀m∈x.1.weights P e,m<=reachBytes)->(∃es sp,d=.slice es sp/\x.1∈es)->∃a,cs=cells a/\ok a)
 (hval:Value.okWide P W r b0 t v) (hd:DataW.Trod enc P W base (fun _=>Af) Af t v d p)
 {K:Ae Aw} {ds:Ae (DataW j7)} (hsz:(DataW.weightsEach P K ds).all (·<=reachBytes)=Af) {j:Y} (N:K[j]? =J t) (h:ds[j]? =J d):
 ∃(l:Ae α) (A:Av AB) (cap:Y),v=.slice A (Alz l) cap/\(∀a∈l,ok a)/\(A=Aa->l=[])/\Alz l*P.bytesOf e<=reachBytes/\Alz l<=cap/\Sl W W.heap.size A (l.flatMap cells):=by
 obtain⟨A,len,cap,rfl⟩:=okWide_slice ht hval;obtain⟨S,hf⟩:=hd;rcases open_slice ht hf with⟨f,_⟩|⟨a,L,T,m,n,D,Pl,f,_,hl,hm,y,V,E⟩
 .obtain⟨rfl,rfl,rfl⟩:=f;exact⟨[],Aa,0,Z,Bh,fun _=>rfl,Bh,Bh,.inl Z⟩
 .obtain⟨rfl,rfl,rfl⟩:=f;subst y;obtain⟨rfl,rfl⟩:=V
  obtain⟨B,hB⟩:=choose_lt (α:=α) (p:=fun i b=>W.cells? base (a.add (i*c)) c=J (cells b)/\ok b) (n:=len) (fun i hi=>by
   obtain⟨I,Q,h2⟩:=E i X
   have hw:∀k∈(D i).weights P e,k<=reachBytes:=fun k hk=>by
    have g:D i∈(BE len).map D:=Bf
    have Q:k∈(DataW.slice ((BE len).map D) ((BE (m-len)).map fun j=>D (len+j))).weights P t:=by
     simp[DataW.weights,ht,List.mem_cons];exact .inr (.inl (bX g _ hk))
    have:=TL.1 hsz _ (DataW.weights_mem_each N h _ Q);grind
   obtain⟨b,rfl,hb⟩:=step n I _ h2 hw ⟨_,_,Z,Bf⟩;grind)
  have C:Alz ((BE len).map B)=len:=Bh;refine⟨_,_,m,by rw[C],?_,Bh,?_,X,nU fun i u hu=>?_⟩
  .grind
  .have:=sized_slice hsz N h ht;grind
  .obtain⟨q,s,hq,hs,rfl,o⟩:=YN G _ _ _ hu;have w:=by simpa using hq
   have hg:((BE _).map B)[q]=B q:=Bh;rw[hg]at o;rw[<-add_add,(World.cells?_some (hB q w).1).2.2 s hs];omega
end
section
variable{j7:Type}{enc:Aw×Ah->j7}{P:AC}{W:Ad}{base:Y}{t e:Aw}
def lf{α:Type}[Inhabited α](cells:α->Bl)(ok:α->Prop){c:Y}(y:∀a,Alz (cells a)=c)(ht:P.underlying t=J (.slice e))(hc:P.cellsOf e=c)
 (step:∀n cs x,DataW.trod enc P W base (fun _=>Af) Af n e cs=J x->(∀m∈x.1.weights P e,m<=reachBytes)->∃a,cs=cells a/\ok a)
 {E:Y} {f:Bl} {C:DataW j7×Ae MemPlace} (hf:DataW.trod enc P W base (fun _=>Af) Af E t f=J C) (hsz:∀m∈C.1.weights P t,m<=reachBytes):
 ∃(l:Ae α) (A:Av AB) (cap:Y),f=[.slice A (Alz l) cap]/\(∀a∈l,ok a)/\(A=Aa->l=[])/\Alz l*P.bytesOf e<=reachBytes/\Alz l<=cap/\Sl W W.heap.size A (l.flatMap cells):=by
 rcases open_slice ht hf with⟨w,_⟩|⟨a,len,cap,m,n,D,Pl,rfl,_,hl,hm,o,G,v⟩
 .exact⟨[],Aa,0,w,Bh,fun _=>rfl,Bh,Bh,.inl Z⟩
 .subst o;subst G
  obtain⟨B,S⟩:=choose_lt (α:=α) (p:=fun i b=>W.cells? base (a.add (i*c)) c=J (cells b)/\ok b) (n:=len) (fun i hi=>by
   obtain⟨T,h1,h2⟩:=v i X
   have V:=fun k N=>by
    have d:D i∈(BE len).map D:=Bf;refine hsz k ?_;simp[DataW.weights,ht,List.mem_cons];exact .inr (.inl (bX d _ N))
   grind)
  have r:Alz ((BE len).map B)=len:=Bh;refine⟨_,_,m,by rw[r],?_,Bh,?_,X,nU fun i u I=>?_⟩
  .grind
  .have:=hsz ((Alz ((BE len).map D)+Alz ((BE (m-len)).map fun j=>D (len+j)))*P.bytesOf e) (by simp[DataW.weights,ht]);grind
  .obtain⟨q,s,L,K,rfl,g⟩:=YN y _ _ _ I;have h:=by simpa using L
   have Q:((BE _).map B)[q]=B q:=Bh;rw[Q]at g;rw[<-add_add,(World.cells?_some (S q h).1).2.2 s K];omega
def zm(ht:P.underlying t=J (.slice e))(he:P.underlying e=J .bool)(i:P.cellsOf e=1)(d:P.bytesOf e=1)
 {g:Y} {a:Bl} {f:DataW j7×Ae MemPlace} (hf:DataW.trod enc P W base (fun _=>Af) Af g t a=J f) (hsz:∀m∈f.1.weights P t,m<=reachBytes):
 ∃(l:Ae Ar) (A:Av AB) (cap:Y),a=[.slice A (Alz l) cap]/\(A=Aa->l=[])/\Alz l<=140737488351232/\Sl W W.heap.size A (l.map fun b=>.bool b):=by
 obtain⟨l,A,cap,o,_,k,j,_,p⟩:=lf (fun b:Ar=>[Value.bool b]) (fun _=>True) (c:=1) (fun _=>rfl) ht i (fun n q x h _=>by
  obtain⟨b,rfl,_⟩:=DataW.trod_bool he h;simp) hf hsz
 refine⟨l,A,_,o,k,?_,?_⟩
 .rw[d,IX]at j;assumption
 .have e:∀l:Ae _,(l.flatMap fun b=>[Value.bool b])=l.map fun b=>.bool b:=fun l=>by
   induction l with
   |nil=>rfl
   |cons b l ih=>grind
  grind
end
end
section
open Go.ChangeShapes Go.WideShapes Go.ChangeAt Go.Deep Dsk
structure Fl where
 at_:H
 ks:Ae Ar
 A:Av AB
 k:Y
def Fl.cells(f:Fl):Bl:=[Bb f.at_,.slice f.A (Alz f.ks) f.k]
structure Fl.q(f:Fl)(w:Ad)(C:Y):Prop where
 at_:-9223372036854775808<=f.at_/\f.at_<=9223372036854775807
 nil:f.A=Aa->HP f.ks=[]
 len:Alz f.ks<=140737488351232
 sl:Sl w C f.A (HP f.ks)
section
variable{j7:Type}{enc:Aw×Ah->j7}{W:Ad}{base:Y}{v:Ah}{d:DataW j7}{p:Ae MemPlace}{r:Reach}{b0:Y}
def two{l:Bl}(h:Alz l=2):∃a b,l=[a,b]:=by
 match l,h with
 |[a,b],_=>simp
def vy(n:Y)(K:Bl)(x:DataW j7×Ae MemPlace)(h:DataW.trod enc eD W base (fun _=>Af) Af n 38 K=J x)(S:∀m∈x.1.weights eD 38,m<=reachBytes):∃a:Fl,K=a.cells/\a.q W W.heap.size:=by
 obtain⟨q,m,rfl,rfl,hl,t,B⟩:=DataW.trod_struct na h;obtain⟨N,L,rfl⟩:=two (hl.trans Bi);have g:∀i (hi:i<2),∃y,q[i]? =J y:=Bf;obtain⟨P,e0⟩:=g 0 X;obtain⟨o,I⟩:=g 1 X;have G:DataW.trod enc eD W base (fun _=>Af) Af m 3 ((([N,L]:Bl).drop 0).take (eD.cellsOf 3))=J P:=(B 0 _ Z).trans e0;have E:DataW.trod enc eD W base (fun _=>Af) Af m 36 ((([N,L]:Bl).drop 1).take (eD.cellsOf 36))=J o:=(B 1 _ Z).trans I;rw[show eD.cellsOf 3=1 by kernel_rfl]at G;rw[show eD.cellsOf 36=1 by kernel_rfl]at E;obtain⟨n0,D,_,Q⟩:=DataW.trod_int io G;have f:(q.map (·.1))[1]? =J o.1:=by rw[DV,I];rfl
 have e:∀k∈DataW.weightsEach _ [3,36] _,k<=reachBytes:=fun k w=>S k (by
  assumption)
 obtain⟨l,A,ab,C,hA,V,T⟩:=zm Bh underlying4 Bi Bi E (fun k w=>e k (DataW.weights_mem_each (j:=1) Z f _ w));simp at D C;subst D C;exact⟨⟨_,l,A,_⟩,Z,⟨bY Q,fun h=>hA h▸Z,V,T⟩⟩
end
end
section
open Go.ChangeShapes Go.WideShapes Go.ChangeAt Go.Deep Pth Rec Srt Dsk Wal Cat Tar
def dA(w:Ad)(C:Y)(A:Av AB)(l:Ae H):Prop:=Sl w C A (l.map fun x=>Value.int .i64 x)/\Alz l<=140737488355328
section
variable{j7:Type}{enc:Aw×Ah->j7}{W:Ad}{base:Y}{v:Ah}{d:DataW j7}{p:Ae MemPlace}{r:Reach}{b0:Y}
instance:Inhabited En:=⟨⟨[],[]⟩⟩
instance:Inhabited Ta:=⟨⟨0,[],[],0,[],Aa,0,0,[],Aa,0⟩⟩
def Aiq{l:Bl}(h:Alz l=2):∃a b,l=[a,b]:=by
 match l,h with
 |[a,b],_=>exact⟨a,b,Z⟩
def Aet{l:Bl}(h:Alz l=7):∃a b c d e f g,l=[a,b,c,d,e,f,g]:=by
 match l,h with
 |[a,b,c,d,e,f,g],_=>exact⟨a,b,c,d,e,f,g,Z⟩
def Wi{P:AC}{ts:Ae Aw}{ds:Ae (DataW j7)}{j:Y}{t:Aw}{s:Bg}(h:∀m∈DataW.weightsEach P ts ds,m<=reachBytes)(ht:ts[j]? =J t)(hd:ds[j]? =J (.lit (.string s))):Alz s<=140737488351232:=
 BA (h _ (DataW.weights_mem_each ht hd _ (by simp[DataW.weights]))) Bc
def Wz(a:En):Prop:=Alz a.g<=140737488351232/\Alz a.data<=140737488351232
def va(n:Y)(L:Bl)(x:DataW j7×Ae MemPlace)(h:DataW.trod enc eD W base (fun _=>Af) Af n 64 L=J x)(T:∀m∈x.1.weights eD 64,m<=reachBytes):∃a:En,L=a.cells/\Wz a:=by
 obtain⟨l,m,rfl,rfl,V,f,D⟩:=DataW.trod_struct iu h;obtain⟨P,N,rfl⟩:=Aiq (V.trans Bi);have g:∀i (C:i<2),∃y,l[i]? =J y:=fun i C=>⟨_,BQ (by rw[f];exact C)⟩;obtain⟨S,K⟩:=g 0 X;obtain⟨Q,I⟩:=g 1 X;have w:DataW.trod enc eD W base (fun _=>Af) Af m 9 ((([P,N]:Bl).drop 0).take (eD.cellsOf 9))=J S:=(D 0 _ Z).trans K;have t:DataW.trod enc eD W base (fun _=>Af) Af m 9 ((([P,N]:Bl).drop 1).take (eD.cellsOf 9))=J Q:=(D 1 _ Z).trans I;rw[show eD.cellsOf 9=1 by kernel_rfl]at w t;simp only[MW,TN,Ub,Oj]at w t;obtain⟨B,G,q,w0⟩:=DataW.trod_string eT w;obtain⟨A,E,o,w1⟩:=DataW.trod_string eT t;simp only[RM.injEq,and_true]at G E;subst G E;have d0:(l.map (·.1))[0]? =J (.lit (.string B.data.toList)):=by rw[DV,K,q];rfl
 have d1:(l.map (·.1))[1]? =J (.lit (.string A.data.toList)):=by rw[DV,I,o];rfl
 have e:∀k∈DataW.weightsEach eD [9,9] (l.map (·.1)),k<=reachBytes:=fun k hk=>T k (by
  simp only[DataW.weights,iu];exact hk)
 exact⟨⟨B.data.toList,A.data.toList⟩,Z,Wi (j:=0) e Z d0,Wi (j:=1) e Z d1⟩
structure Ta.Oks(a:Ta):Prop where
 ok:a.q
 g:Alz a.g<=140737488351232
 content:Alz a.content<=140737488351232
 B:Alz a.B<=140737488351232
 each:∀x∈a.B,Wz x
structure Ta.At(a:Ta)(w:Ad)(C:Y):Prop where
 B:Sl w C a.fA (Df a.B)
 keep:Sl w C a.kA (HP a.ks)
def dX(w:Ad)(C:Y)(A:Av AB)(l:Ae Ta):Prop:=Sl w C A (bH l)/\(∀a∈l,a.At w C)/\Alz l<=140737488351232
def Ahg(n:Y)(L:Bl)(x:DataW j7×Ae MemPlace)(h:DataW.trod enc eD W base (fun _=>Af) Af n 40 L=J x)(Q:∀m∈x.1.weights eD 40,m<=reachBytes):∃a:Ta,L=a.cells/\a.Oks/\a.At W W.heap.size:=by
 obtain⟨o,m,rfl,rfl,hl,G,q⟩:=DataW.trod_struct iV h;obtain⟨E,D,C,B,A,w,t,rfl⟩:=Aet (hl.trans Bi);have g:∀i (hi:i<6),∃y,o[i]? =J y:=fun i hi=>⟨_,BQ (by rw[G];exact hi)⟩;obtain⟨y0,e0⟩:=g 0 X;obtain⟨y1,e1⟩:=g 1 X;obtain⟨y2,e2⟩:=g 2 X;obtain⟨y3,e3⟩:=g 3 X;obtain⟨y4,e4⟩:=g 4 X;obtain⟨y5,e5⟩:=g 5 X;have f0:DataW.trod enc eD W base (fun _=>Af) Af m 3 ((([E,D,C,B,A,w,t]:Bl).drop 0).take (eD.cellsOf 3))=J y0:=(q 0 _ Z).trans e0;have f1:DataW.trod enc eD W base (fun _=>Af) Af m 9 ((([E,D,C,B,A,w,t]:Bl).drop 1).take (eD.cellsOf 9))=J y1:=(q 1 _ Z).trans e1;have f2:DataW.trod enc eD W base (fun _=>Af) Af m 9 ((([E,D,C,B,A,w,t]:Bl).drop 2).take (eD.cellsOf 9))=J y2:=(q 2 _ Z).trans e2;have f3:DataW.trod enc eD W base (fun _=>Af) Af m 3 ((([E,D,C,B,A,w,t]:Bl).drop 3).take (eD.cellsOf 3))=J y3:=(q 3 _ Z).trans e3;have f4:DataW.trod enc eD W base (fun _=>Af) Af m 31 ((([E,D,C,B,A,w,t]:Bl).drop 4).take (eD.cellsOf 31))=J y4:=(q 4 _ Z).trans e4;have V:DataW.trod enc eD W base (fun _=>Af) Af m 38 ((([E,D,C,B,A,w,t]:Bl).drop 5).take (eD.cellsOf 38))=J y5:=(q 5 _ Z).trans e5;rw[show eD.cellsOf 3=1 by kernel_rfl]at f0 f3;rw[show eD.cellsOf 9=1 by kernel_rfl]at f1 f2;rw[show eD.cellsOf 31=1 by kernel_rfl]at f4;rw[show eD.cellsOf 38=2 by kernel_rfl]at V;simp only[MW,TN,Ub,Oj]at f0 f1 f2 f3 f4 V;obtain⟨n0,h0,_,w0⟩:=DataW.trod_int io f0;obtain⟨s1,h1,P,_⟩:=DataW.trod_string eT f1;obtain⟨s2,h2,N,_⟩:=DataW.trod_string eT f2;obtain⟨n3,h3,_,w3⟩:=DataW.trod_int io f3;have d1:(o.map (·.1))[1]? =J (.lit (.string s1.data.toList)):=by rw[DV,e1,P];rfl
 have d2:(o.map (·.1))[2]? =J (.lit (.string s2.data.toList)):=by rw[DV,e2,N];rfl
 have d4:(o.map (·.1))[4]? =J y4.1:=by rw[DV,e4];rfl
 have d5:(o.map (·.1))[5]? =J y5.1:=by rw[DV,e5];rfl
 have e:∀k∈DataW.weightsEach eD [3,9,9,3,31,38] (o.map (·.1)),k<=reachBytes:=fun k I=>Q k (by
  simp only[DataW.weights,iV];exact I)
 obtain⟨l,fA,fc,h4,T,_,K,_,S⟩:=lf (α:=En) En.cells Wz (c:=2) (fun _=>rfl) ip Bi (fun n L x hx Q=>va n L x hx Q) f4 (fun k I=>e k (DataW.weights_mem_each (j:=4) Z d4 _ I));rw[show eD.bytesOf 64=32 by kernel_rfl]at K;simp only[reachBytes]at K;obtain⟨fl,h5,f⟩:=vy m _ _ V (fun k I=>e k (DataW.weights_mem_each (j:=5) Z d5 _ I));have l1:=Wi (j:=1) e Z d1;have l2:=Wi (j:=2) e Z d2;simp only[RM.injEq,and_true]at h0 h1 h2 h3 h4;subst h0 h1 h2 h3 h4;obtain⟨fa,ks,kA,kk⟩:=fl;simp only[Fl.cells,RM.injEq,and_true]at h5;obtain⟨rfl,rfl⟩:=h5;exact⟨⟨n0,s1.data.toList,s2.data.toList,n3,l,fA,fc,fa,ks,kA,kk⟩,Z,⟨⟨bY w3,f.at_,f.nil,f.len⟩,l1,l2,by show Alz l<=_;omega,T⟩,⟨S,f.sl⟩⟩
def open_Act(hval:Value.okWide eD W r b0 22 v)(q:DataW.Trod enc eD W base (fun _=>Af) Af 22 v d p)
 {g:Ae Aw} {ds:Ae (DataW j7)} (hsz:(DataW.weightsEach eD g ds).all (·<=reachBytes)=Af) {j:Y} (o:g[j]? =J 22) (e:ds[j]? =J d):
 ∃(l:Ae Ta) (A:Av AB) (cap:Y),v=.slice A (Alz l) cap/\(∀a∈l,a.Oks)/\dX W W.heap.size A l:=by
 obtain⟨l,A,cap,w,i,_,h,_,t⟩:=lJ (α:=Ta) Ta.cells (fun a=>a.Oks/\a.At W W.heap.size) (c:=7) (fun _=>rfl) underlying22 Bi (fun n y x k m _=>Ahg n y x k m) hval q hsz o e;rw[show eD.bytesOf 40=104 by kernel_rfl]at h;simp only[reachBytes]at h;exact⟨l,A,cap,w,fun a f=>(i a f).1,t,fun a f=>(i a f).2,X⟩
instance:Inhabited H:=⟨0⟩
def open_Ints(hval:Value.okWide eD W r b0 51 v)(o:DataW.Trod enc eD W base (fun _=>Af) Af 51 v d p)
 {f:Ae Aw} {ds:Ae (DataW j7)} (hsz:(DataW.weightsEach eD f ds).all (·<=reachBytes)=Af) {j:Y} (k:f[j]? =J 51) (e:ds[j]? =J d):
 ∃(l:Ae H) (A:Av AB) (cap:Y),v=.slice A (Alz l) cap/\(∀a∈l,-9223372036854775808<=a/\a<=9223372036854775807)/\dA W W.heap.size A l:=by
 obtain⟨l,A,cap,w,t,_,g,_,q⟩:=lJ (α:=H) (fun x=>[Bb x]) (fun a=>-9223372036854775808<=a/\a<=9223372036854775807) (c:=1) (fun _=>rfl) hU Bi (fun n B x i y _=>by
  obtain⟨m,rfl,_,h⟩:=DataW.trod_int io i;exact⟨m,Z,bY h⟩) hval o hsz k e
 rw[show eD.bytesOf 3=8 by kernel_rfl]at g;simp only[reachBytes]at g;refine⟨l,A,cap,w,t,?_,X⟩;rw[List.map_eq_flatMap];exact q
end
def mlen_of{w:Ad}(h:w.ShapedOpen eD):DE w:=Aki.s1_3 w h
def tab_of7{W:Ad}(h:laidMetH eD Rows.topSalvageRow.laid W):Qi W:=by
 have a:laidMet eD [("internal/strconv.uint64pow10",Lib.tabData .u64 Lib.pow10Tab),("unicode/utf8.acceptRanges",Rows.laid_unicode_utf8_acceptRanges),("unicode/utf8.first",Rows.laid_unicode_utf8_first)] W:=laidMet.tail (laidMet.tail h);exact Lib.tabBelow_of_tabIs (Lib.tabIs_of_head (rest:=[("unicode/utf8.acceptRanges",Rows.laid_unicode_utf8_acceptRanges),("unicode/utf8.first",Rows.laid_unicode_utf8_first)]) (g:=3) Bi Bi underlying399 iw Bi Bi a)
def yY{w:Ad}(h:DE w):0<w.heap.size:=by
 obtain⟨m,h⟩:=h;exact World.block_lt_of_cell? w _ h
def topSalvage_z(acts:Ae Ta)(hok:∀a∈acts,a.Oks)(A:Av AB)(c:Y)(wp:Y)(hwp:wp<=255)(over:Ae H)(hov:∀x∈over,-9223372036854775808<=x/\x<=9223372036854775807)(Ao:Av AB)(co:Y)(w:Ad)(C:Y)(hs:dX w C A acts)(Co:Y)(hso:dA w Co Ao over)(ht:Qi w)(hm:DE w):
 Bm eD 5 [.slice A (Alz acts) c,.int .u8 (wp:H),.slice Ao (Alz over) co] w fun v w'=>v=.bool Af/\Be w w':=
 Ail acts (fun a ha=>(hok a ha).ok) A c C wp hwp over hov Ao co Co w ⟨ht,hm⟩ (yY hm) hs.1 (BA hs.2.2 Bc) hso.1 hso.2
  (fun a ha=>⟨C,(hs.2.1 a ha).B,BA (hok a ha).B Bc⟩) (fun a ha=>⟨C,(hs.2.1 a ha).keep⟩) (fun a ha=>⟨BA (hok a ha).g Bc,BA (hok a ha).content Bc,fun x hx=>⟨BA ((hok a ha).each x hx).1 Bc,BA ((hok a ha).each x hx).2 Bc⟩⟩)
end
end Go.Proofs.YtkmlafmjaeeanaaGreatDoor
