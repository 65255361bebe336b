/- TopCrash, part F: what the archive keeps wherever the power goes, and the walk of TopCrash itself. -/
import Derived.Test.YtkmlafmjaeeanaaGreatDoorMrkE
set_option linter.all false
set_option maxHeartbeats 2000000
set_option maxRecDepth 20000
open Go Go.RowKit Go.Proofs.Tryz
open _root_ renaming rfl→Z,Nat→Y,Int→H,List→Ae,if_neg→Ag,if_pos→Ai,Array→Ap,Bool→Ar,congrArg→Av,Option→Aw,trivial→AB,UInt8→AH,absurd→AI,String→AJ,decide_eq_true→AL,decide_eq_false→AN,of_decide_eq_true→AO,dif_pos→AQ,of_decide_eq_false→AR
open _root_.Array renaming replicate→JX
open _root_.Bool renaming false_eq_true→Wi,true→Af,false→Aj
open _root_.Go renaming World→Ad,Value→Ah,TypeId→Ay,Addr→AC,Program→AD,Act→AE,Operand→AF,Oper→AG,IntKind→AK,Code→AM,Exit→AP
open _root_.List renaming range→BF,replicate→BJ,length→DZ,Pairwise→HE,zipWith→HK,cons→RM,length→Ajb
open _root_.Nat renaming blt→BL,beq→Jw,not_lt_zero→WU,reducePow→WV
open _root_.Option renaming some→J,none→Aa
open _root_.Prod renaming snd→Sb
namespace Go.Proofs.YtkmlafmjaeeanaaGreatDoor
section
open Pth Rec Srt Dsk Wal Cat Tar
structure VJ(V:Vl)(g nx k:Y)(fs:Ae En):Prop where
 arc:Arc V.D g nx V.mems
 files:Fil V.D V.mems fs
 gen:V.gen=(g:H)
 next:V.next=(nx:H)
 good:V.broken=Aj
 sm:Sm V.D k
 gk:g<=k
structure Fell(V:Vl)(k:Y)(fs:Ae En):Prop where
 gone:Gone V.D
 ok:VOk V k
 can:∃g ms,g<=k/\Can (Ef V.D) g ms/\Fil (Ef V.D) ms fs
section
variable{V:Vl}{D:Dv}{g nx k:Y}{ms:Ae M}{fs fs':Ae En}{ns:Ae Nt}
def VJ.more{k':Y}(h:VJ V g nx k fs)(hk:k<=k'):VJ V g nx k' fs:=⟨h.arc,h.files,h.gen,h.next,h.good,h.sm.more hk,BC h.gk hk⟩
def VOk.Aha{E:Dv}{k':Y}(h:VOk V k)(b:Ar)(h1:E.Ok)(h2:Sm E k'):VOk { V with D:=E,broken:=b } k':=⟨h1,h2,h.gen,h.next,h.ok,h.len,h.path⟩
def VOk.Ahl{k':Y}(h:VOk V k)(hk:k<=k'):VOk V k':=⟨h.dev,h.sm.more hk,h.gen,h.next,h.ok,h.len,h.path⟩
def Fell.more{k':Y}(h:Fell V k fs)(hk:k<=k'):Fell V k' fs:=by
 obtain⟨g,ms,d,a⟩:=h.can;exact⟨h.gone,h.ok.Ahl hk,g,ms,BC d hk,a⟩
def NE{l:Ae M}{cap:H}(h:OkC l cap){m:M}(hm:m∈l):30<=m.start/\1<=m.sectors/\m.start+m.sectors<=cap/\cap<=4096:=by
 have a:=h.ext.fit _ (QG hm);have d:=h.ext.room;unfold HS at a;dsimp only at a;omega
def VJ.ok(h:VJ V g nx k fs):VOk V k:=by
 obtain⟨d,e⟩:=h.arc.ok;obtain⟨i,f⟩:=h.arc.gle;have l:=h.gen;have j:=h.next;exact⟨h.arc.rest.ok,h.sm,X,X,fun m a=>Yu ⟨d.may m a,e m a⟩,by have:=d.len;omega,fun m a=>by have:=(JO (d.may m a)).1;omega⟩
def VJ.live(h:VJ V g nx k fs):¬(V.broken=Af∨V.D.dead=Af):=by
 rw[h.good,h.arc.rest.dead];decide
def Pe{D':Dv}{P:Y->BN->Prop}(hf:Fil D ms fs)(hok:OkC ms D.cap)(u:Upn 4096 P D.now D'.now)(hp:∀j t,P j t->j<30):Fil D' ms fs:=
 hf.up u (fun m hm=>by have:=NE hok hm;omega) fun m hm j h1 h2 t q=>by
  have:=NE hok hm;have:=hp j t q;dsimp only at h1;omega
def GD(V:Vl)(r:Vl×Y)(k:Y)(fs fs':Ae En)(Q:Y->Y->Prop):Prop:=
 r.1.D.cap=V.D.cap/\r.1.D.at_<=V.D.at_/\((r.2=0/\∃g nx,VJ r.1 g nx k fs'/\Q g nx)∨(r.2=190/\V.D.at_≠0/\(Fell r.1 k fs∨Fell r.1 k fs')))
def GD.imp{r:Vl×Y}{k':Y}{Q Q':Y->Y->Prop}(h:GD V r k fs fs' Q)(hk:k<=k')(hQ:∀g nx,VJ r.1 g nx k fs'->r.2=0->Q g nx->Q' g nx):GD V r k' fs fs' Q':=
 ⟨h.1,h.2.1,h.2.2.imp (fun⟨a,g,nx,b,c⟩=>⟨a,g,nx,b.more hk,hQ g nx b a c⟩) fun⟨a,b,c⟩=>⟨a,b,c.imp (·.more hk) (·.more hk)⟩⟩
def GD.trans{R r:Vl×Y}{k':Y}{a:Ae En}{Q f:Y->Y->Prop}(h:GD V R k fs fs Q)(hk:k<=k')(h0:R.2≠0->r=R)(h1:∀g nx,R.2=0->VJ R.1 g nx k fs->Q g nx->GD R.1 r k' fs a f):GD V r k' fs a f:=by
 obtain⟨e,d,⟨w,g,nx,v,t⟩|⟨q,p,o⟩⟩:=h
 .obtain⟨n,m,l⟩:=h1 g nx w v t;exact⟨n.trans e,BC m d,l.imp id fun⟨j,x,i⟩=>⟨j,X,i⟩⟩
 .rw[h0 X];exact⟨e,d,.inr ⟨q,p,.inl ((o.elim id id).more hk)⟩⟩
def VJ.room(h:VJ V g nx k fs)(hk:k<=1000000000){n:Y}(v:n<=20):GD V (CQ V (n:H)) (k+6) fs fs fun _ nx'=>nx'+n<=20/\(CQ V (n:H)).1.mems=V.mems:=by
 have l:=h.next;have m:=h.gk;unfold CQ;by_cases q:(n:H)<=20-V.next
 .rw[Ai q];exact⟨Z,Bv _,.inl ⟨Z,g,nx,h.more X,X,Z⟩⟩
 .rw[Ag q];have e:V.gen+1=((g+1:Y):H):=by rw[h.gen];omega
  have f:=h.arc.cap;have d:=h.arc.ok.1;rw[e];have b:=aE (g:=g+1) h.arc.rest (QT d X) d X;by_cases z:(CR V.D ((g+1:Y):H) V.mems).2=0
  .rw[Ag (fun q=>q z)];obtain⟨a,u⟩:=h.arc.can.saved X b z;exact⟨b.cap,b.at_,.inl ⟨Z,g+1,0,⟨a,Pe h.files d u (fun j t q=>by omega),Z,Z,h.good,b.sm h.sm,X⟩,X,Z⟩⟩
  .rw[Ai z];obtain⟨r,i,p,⟨G,w,o⟩,u⟩:=h.arc.Ahm X b z;exact⟨b.cap,b.at_,.inr ⟨r,p,.inl ⟨i,h.ok.Aha Af i.ok (b.sm h.sm),G,V.mems,X,o,Pe h.files d u (fun j t q=>by omega)⟩⟩⟩
def fq(n:Arc V.D g nx V.mems)(h:V.gen=(g:H))(d:V.next=(nx:H))(w:V.broken=Aj)(o:Sm V.D k)(B:g<=k)(v:VOk V k)(x:Fil V.D V.mems fs)(hf:Fil V.D (Dl V.mems ns) fs')(m:ns≠[])(f:Wal.Good ns)(i:nx+Ajb ns+1<=20)(l:OkC (Dl V.mems ns) V.D.cap)(A:FR (Dl V.mems ns)):
 GD V (Mk V ns) (k+(Ajb ns+2)) fs fs' fun _ _=>(Mk V ns).1.mems=Dl V.mems ns:=by
 unfold Mk;rw[h,d];obtain⟨b,e⟩:=qT n.rest n.cap n.gle.1 m f i;by_cases z:(Fs V.D (g:H) (nx:H) ns).2.2=0
 .rw[Ag (fun q=>q z)];obtain⟨a,u⟩:=n.Ais m f i l A b z;exact⟨b.cap,b.at_,.inl ⟨Z,g,_,⟨a,Pe hf l u (fun j t q=>q),Z,e z,w,b.sm o,X⟩,Z⟩⟩
 .rw[Ai z];obtain⟨E,y,C,p,u⟩:=n.Aih m f i l A b z;refine⟨b.cap,b.at_,.inr ⟨E,C,?_⟩⟩;have r:=v.Aha Af y.ok (b.sm o);rcases p with p|p
  .exact .inl ⟨y,by rw[<-h,<-d]at r ⊢;exact r,g,_,X,p,Pe x n.ok.1 u (fun j t q=>q)⟩
  .exact .inr ⟨y,by rw[<-h,<-d]at r ⊢;exact r,g,_,X,p,Pe hf l u (fun j t q=>q)⟩
def VJ.after{f:Ae Ch}{n:Y}{c:Dv×Y}(h:VJ V g nx k fs)(b:Bt V.D f n c)(o:Wr f)(B:∀c∈f,c.ok V.D.cap)(hl:∀j t,CZ f j t->30<=j)(K:∀j t t',CZ f j t->CZ f j t'->t=t')
 (v:ns≠[]) (i:Wal.Good ns) (m:nx+Ajb ns+1<=20) (p:OkC (Dl V.mems ns) V.D.cap) (L:FR (Dl V.mems ns)) (hold:∀D':Dv,Upn 4096 (CZ f) V.D.now D'.now->Fil D' V.mems fs)
 (hf:∀D':Dv,Upn 4096 (CZ f) V.D.now D'.now->(∀j t,CZ f j t->(j+1)*512<=Ajb D'.now/\BT D'.now j=t)->Fil D' (Dl V.mems ns) fs'):
 GD V (No V c ns) (k+(n+1)+(Ajb ns+2)) fs fs' fun _ _=>(No V c ns).1.mems=Dl V.mems ns:=by
 have l:=h.arc.rest;have s:=Sy.of l b
 have d:∀r:Dv×Y,Sy V.D f (n+1) r->r.2≠0->GD V (V.fail r.1 r.2) (k+(n+1)+(Ajb ns+2)) fs fs' fun _ _=>(No V c ns).1.mems=Dl V.mems ns:=fun r s z=>by
  obtain⟨P,x,N,_⟩:=s.Ahf l B z;obtain⟨u,_⟩:=s.up l o 4096;have a:=h.arc.up (D':=Ef r.1) x.up s.cap u Bc hl;have w:=h.gk;exact⟨s.cap,s.at_,.inr ⟨P,N,.inl ⟨x,h.ok.Aha Af x.ok ((s.sm h.sm).more X),g,V.mems,X,a.can,hold (Ef r.1) u⟩⟩⟩
 obtain⟨E,e⟩:=c;by_cases q:e=0
 .subst q;rw[Ai Z]at s;rw[Xd]at d ⊢;by_cases z:E.sync.2=0
  .rw[Ag (fun q=>q z)];obtain⟨u,_⟩:=s.up l o 4096;obtain⟨A,_⟩:=s.live l B z;have W:=h.arc.up A s.cap u Bc hl;have w:=h.gk;obtain⟨I,G,C⟩:=fq (V:={ V with D:=E.sync.1 }) (ns:=ns) (fs:=fs) (fs':=fs') (k:=k+(n+1)) W h.gen h.next h.good (s.sm h.sm) X (h.ok.Aha V.broken A.ok (s.sm h.sm)) (hold _ u) (hf _ u fun j t q=>s.has l o z K q) v i m (by show OkC _ (E.sync.1.cap:H);rw[s.cap];exact p) L;exact⟨I.trans s.cap,BC G s.at_,C.imp id fun⟨T,S,Q⟩=>⟨T,fun y=>S (Nat.le_zero.1 (y▸s.at_)),Q⟩⟩
  .rw[Ai z]at d ⊢;exact d _ s z
 .rw[Ag (show ¬(E,e).2=0 from q)]at s;rw[Uj (show(E,e).2≠0 from q)]at d ⊢;exact d _ s q
def lD{cap:H}{E0:Ae Xt}:∀(l:Ae En) (ps r:Ae Xt),OkX (E0++ps) cap->Fj cap E0 ps l=(r,0)->∃qs,r=ps++qs/\qs.map Sb=l.map Cc/\OkX (E0++r) cap
 |[],ps,r,h,e=>by
  rw[Fj]at e;injection e with e1 e2;subst e1;exact⟨[],Bi,Z,h⟩
 |x::l,ps,r,h,e=>by
  rw[Fj]at e;split at e
  .rename_i q;injection e with e1 e2;exact AI e2 q
  .rename_i q;have q0:(Ez (E0++ps) cap (Cc x)).2=0:=Dk.1 q;obtain⟨a1,a2,a3⟩:=Yx q0;have a4:=a3.ok a1 h;rw[Cx]at a4;obtain⟨qs,rfl,b2,b3⟩:=lD l _ r a4 e;exact⟨_::qs,by rw[Cx];rfl,by rw[Co,Co,b2],b3⟩
noncomputable def GL(zs:Ae (Xt×En)):Ae Ch:=zs.flatMap fun z=>chs z.1.1.toNat (EE (Cl z.2))
def XA{s:BN}(h:Ajb s%512=0):∀t∈EE s,Ajb t=512:=fun t a=>by
 unfold EE at a;obtain⟨k,d,rfl⟩:=Cr.1 a;have:=DU.1 d;rw[BZ,CM];omega
def eR{s:BN}{k:Y}(h:k<Ajb s/512):(EE s).getD k []=BT s k:=by
 unfold EE;rw[Ck,Eh,MY h];rfl
def Bt.writeX:∀(zs:Ae (Xt×En)) {D:Dv},D.dead=Aj->(∀z∈zs,Fits z.2/\z.1.1.toNat+Ajb (Cl z.2)/512<=D.cap)->Bt D (GL zs) (Ajb (GL zs)) (writeX D zs)
 |[],D,h,_=>Bt.nil h
 |(p,x)::zs,D,h,hz=>by
  obtain⟨q1,q2⟩:=hz _ (HI ..);have el:=JN q1;have b:=Bt.writes (EE (Cl x)) (D:=D) p.1.toNat h (XA el.1) (by rw[Mh];exact q2);have e:GL ((p,x)::zs)=chs p.1.toNat (EE (Cl x))++GL zs:=FZ;rw[Go.Proofs.YtkmlafmjaeeanaaGreatDoor.writeX,e,BA,XB];split
  .rename_i q;exact b.stop q _ X
  .rename_i q;have q0:=Dk.1 q;exact b.trans q0 (Bt.writeX zs (b.live q0) fun z hz'=>by rw[b.cap];exact hz z (FO _ hz'))
def St{zs:Ae (Xt×En)}{j:Y}{t:BN}(h:CZ (GL zs) j t):∃z∈zs,z.1.1.toNat<=j/\j<z.1.1.toNat+Ajb (Cl z.2)/512/\(EE (Cl z.2)).getD (j-z.1.1.toNat) []=t:=by
 obtain⟨z,d,q⟩:=Ov.1 h;obtain⟨a,b,c⟩:=(JP _ _ _ _).1 q;rw[Mh]at b;exact⟨z,d,a,b,c⟩
def jq{zs:Ae (Xt×En)}{z:Xt×En}(hz:z∈zs){k:Y}(hk:k<Ajb (Cl z.2)/512):CZ (GL zs) (z.1.1.toNat+k) (BT (Cl z.2) k):=
 Ov.2 ⟨z,hz,(JP _ _ _ _).2 ⟨X,by rw[Mh];omega,by rw[Kr,eR hk]⟩⟩
def fF:∀(zs:Ae (Xt×En)),(∀z∈zs,Ajb (Cl z.2)/512<=4096)->Ajb (GL zs)<=4096*Ajb zs
 |[],_=>Bv _
 |z::zs,h=>by
  have e:GL (z::zs)=chs z.1.1.toNat (EE (Cl z.2))++GL zs:=FZ;have:=fF zs fun y hy=>h y (FO _ hy);have:=h z (HI ..);rw[e,BA,XB,Mh,Cz];omega
structure Plac(cap:H)(ms:Ae M)(zs:Ae (Xt×En)):Prop where
 ok:OkX (BY ms++zs.map Prod.fst) cap
 fit:∀z∈zs,Fits z.2
 len:∀z∈zs,z.1.2=Cc z.2
section
variable{zs:Ae (Xt×En)}{cap:H}
def Plac.z(h:Plac cap ms zs){z:Xt×En}(a:z∈zs):30<=z.1.1/\z.1.1+Cc z.2<=cap/\cap<=4096/\2<=Cc z.2/\Cc z.2=((Ajb (Cl z.2)/512:Y):H):=by
 have d:=h.ok.fit z.1 (List.mem_append_right _ (Cr.2 ⟨z,a,Z⟩));have j:=h.ok.room;have f:=h.len z a;have i:=JN (h.fit z a);unfold HS at d;rw[f]at d;have e:Cc z.2=((Ajb (Cl z.2)/512:Y):H):=rfl;refine⟨d.1,X,X,X,e⟩
def Plac.one(h:Plac cap ms zs):∀j t t',CZ (GL zs) j t->CZ (GL zs) j t'->t=t':=fun j t t' a b=>by
 obtain⟨z,d,A,x,l⟩:=St a;obtain⟨y,e,w,r,i⟩:=St b;have f:zs.Pairwise fun u v=>apart u.1 v.1:=LX.1 (Nb.1 h.ok.far).2.1;rcases zH (fun u v q=>Xl q) f z d y e with rfl|q
 .exact l.symm.trans i
 .exfalso;have m:=h.z d;have n:=h.z e;have p:=h.len z d;have o:=h.len y e;unfold apart at q;omega
def Plac.Ahh(h:Plac cap ms zs){m:M}(hm:m∈ms):Wh (CZ (GL zs)) (m.start,m.sectors):=fun j e d t q=>by
 obtain⟨z,a,o,n,l⟩:=St q;have f:=h.z a;have i:=h.len z a;have q:=(Nb.1 h.ok.far).2.2 _ (QG hm) z.1 (Cr.2 ⟨z,a,Z⟩);unfold apart at q;dsimp only at q e d;omega
def Plac.wr(h:Plac cap ms zs):Wr (GL zs):=fun c d=>by
 obtain⟨z,a,q⟩:=Ov.1 d;exact NU _ _ (XA (JN (h.fit z a)).1) c q
def Plac.okc{c:Y}(h:Plac (c:H) ms zs):∀d∈GL zs,d.ok c:=fun d e=>by
 obtain⟨z,a,q⟩:=Ov.1 e;have f:=h.z a;exact Qw (XA (JN (h.fit z a)).1) (by rw[Mh];omega) d q
def Plac.files{D':Dv}{c:Y}(h:Plac (c:H) ms zs)(d:Dg M.path ms)(hf:Fil D ms fs)(u:Upn 4096 (CZ (GL zs)) D.now D'.now)(o:∀j t,CZ (GL zs) j t->(j+1)*512<=Ajb D'.now/\BT D'.now j=t):
 Dg M.path (zs.foldl (fun l z=>Cd M.path (mz z) l) ms)/\OkX (BY (zs.foldl (fun l z=>Cd M.path (mz z) l) ms)) c/\Fil D' (zs.foldl (fun l z=>Cd M.path (mz z) l) ms) ((zs.map Sb).foldl (fun f x=>Cd En.path x f) fs)/\
  ∀m∈zs.foldl (fun l z=>Cd M.path (mz z) l) ms,m∈ms∨∃z∈zs,m=mz z:=by
 refine lS zs ms fs d h.ok (hf.up u (fun m n=>?_) fun m n=>h.Ahh n) fun z a=>?_
 .have p:=h.ok.fit _ (List.mem_append_left _ (QG n));have y:=h.ok.room;unfold HS at p;dsimp only at p;omega
 .have w:=h.z a;have v:=JN (h.fit z a);refine Stands.of (h.fit z a) (by show 0<=z.1.1;omega) (h.len z a) Z Z ⟨v.1,X,?_,fun i r=>(o _ _ (jq a r)).2⟩;have q:=(o _ _ (jq a (k:=Ajb (Cl z.2)/512-1) X)).1;have e:z.1.1.toNat+(Ajb (Cl z.2)/512-1)+1=z.1.1.toNat+Ajb (Cl z.2)/512:=X;rw[e]at q;exact q
end
def ZA{cap:H}{zs:Ae (Xt×En)}(h:Plac cap ms zs){z:Xt×En}(a:z∈zs):Ds (mz z)/\(mz z).sum<=4294967295:=by
 have d:=h.z a;have i:=h.len z a;have f:=h.fit z a;have e:=f.data;have:=eS z.2.data;exact⟨⟨f.path,d.1,by show 1<=z.1.2;omega,by show z.1.2<=4096;omega,by show z.1.1+z.1.2<=4096;omega,by show(0:H)<=(Ajb z.2.data:H);omega,by show(Ajb z.2.data:H)<=8192;omega⟩,by show Fc z.2.data<=_;omega⟩
def jf{cap:H}{zs:Ae (Xt×En)}(h:Plac cap ms zs):Wal.Good (zs.map fun z=>(⟨1,mz z⟩:Nt)):=fun n e=>by
 obtain⟨z,d,rfl⟩:=Cr.1 e;obtain⟨a,b⟩:=ZA h d;refine⟨?_,b⟩;unfold CJ;rw[XM,Ai a];exact nofun
def lT{cap:H}{zs:Ae (Xt×En)}(h:Plac cap ms zs)(hc:OkC ms cap)(hs:FR ms)(hms:Dg M.path (zs.foldl (fun l z=>Cd M.path (mz z) l) ms))(hx:OkX (BY (zs.foldl (fun l z=>Cd M.path (mz z) l) ms)) cap)(hm:∀m∈zs.foldl (fun l z=>Cd M.path (mz z) l) ms,m∈ms∨∃z∈zs,m=mz z)(hl:Ajb (zs.foldl (fun l z=>Cd M.path (mz z) l) ms)<=16):
 OkC (zs.foldl (fun l z=>Cd M.path (mz z) l) ms) cap/\FR (zs.foldl (fun l z=>Cd M.path (mz z) l) ms):=
 ⟨⟨hl,fun m q=>by
  rcases hm m q with a|⟨z,hz,rfl⟩
  .exact hc.may m a
  .exact(ZA h hz).1,hms,hx⟩,fun m q=>by
  rcases hm m q with a|⟨z,hz,rfl⟩
  .exact hs m a
  .exact(ZA h hz).2⟩
def VJ.putF(h:VJ V g nx k fs)(hk:k<=900000000){l:Ae En}{ps:Ae Xt}(N:Ajb ps=Ajb l)(d:Plac V.D.cap V.mems (ps.zip l))(x:l≠[])(hl:Ajb (Dl V.mems (HK DC l ps))<=16)(ab:Ajb l<=16):
 GD V (Go.Proofs.YtkmlafmjaeeanaaGreatDoor.putF V l ps) (k+100000) fs (l.foldl CW fs) fun _ _=>(Go.Proofs.YtkmlafmjaeeanaaGreatDoor.putF V l ps).1.mems=Dl V.mems (HK DC l ps):=by
 unfold Go.Proofs.YtkmlafmjaeeanaaGreatDoor.putF;rw[Ag x];refine(h.room X (n:=Ajb l+1) X).trans X (fun q=>Ai q) fun g1 W Q i⟨r3,B⟩=>?_;rw[Ag (fun q=>q Q)];have K:(CQ V ((Ajb l+1:Y):H)).1.D.cap=V.D.cap:=(h.room X (n:=Ajb l+1) X).1;generalize(CQ V ((Ajb l+1:Y):H)).1=R at i B K ⊢;have v:=h.arc.ok.1.rises;obtain⟨zs,hzs⟩:∃zs,zs=ps.zip l:=⟨_,Z⟩;have P:zs.map Sb=l:=by rw[hzs,List.map_snd_zip X]
 rw[bV,<-hzs]at hl ⊢;rw[<-hzs]at d;rw[<-B,<-K]at d;rw[<-B]at hl v ⊢;have A:Dl R.mems (zs.map fun z=>⟨1,mz z⟩)=zs.foldl (fun l z=>Cd M.path (mz z) l) R.mems:=by rw[Np v,YD]
 have o:Ajb zs=Ajb l:=by rw[<-P,DF]
 have b:=Bt.writeX zs (D:=R.D) i.arc.rest.dead fun z r=>⟨d.fit z r,by have:=d.z r;omega⟩;have af:Ajb (GL zs)<=4096*16:=BC (fF zs fun z r=>by have:=d.z r;omega) (Nat.mul_le_mul_left _ X);have I:=(oL l fs (VB i.files.keys v)).1;obtain⟨L,T⟩:=i.arc.ok;rw[A]at hl
 have w:OkC (zs.foldl (fun l z=>Cd M.path (mz z) l) R.mems) R.D.cap/\FR (zs.foldl (fun l z=>Cd M.path (mz z) l) R.mems):=by
  have S:∀(zs:Ae (Xt×En)) (ms:Ae M),Dg M.path ms->OkX (BY ms++zs.map Prod.fst) R.D.cap->Dg M.path (zs.foldl (fun l z=>Cd M.path (mz z) l) ms)/\OkX (BY (zs.foldl (fun l z=>Cd M.path (mz z) l) ms)) R.D.cap/\∀m∈zs.foldl (fun l z=>Cd M.path (mz z) l) ms,m∈ms∨∃z∈zs,m=mz z:=fun zs=>by
   induction zs with
   |nil=>exact fun ms a b=>⟨a,by rw[Ep,List.append_nil]at b;exact b,fun m p=>.inl p⟩
   |cons z zs ih=>
    intro ms a b;obtain⟨G,E,C⟩:=ih _ (MF M.path (mz z) a) (Yi (m:=mz z) a b);refine⟨G,E,fun m p=>?_⟩;rcases C m p with q|⟨y,hy,e⟩
    .rcases(Ms M.path (mz z) a m).1 q with q|q
     .exact .inr ⟨z,HI ..,q⟩
     .exact .inl q.1
    .exact .inr ⟨y,FO _ hy,e⟩
  obtain⟨G,E,C⟩:=S zs R.mems v d.ok;exact lT d L T G E C hl
 have:=i.after (fs':=l.foldl CW fs) (ns:=zs.map fun z=>⟨1,mz z⟩) b d.wr d.okc (fun j t q=>by
  obtain⟨z,r,a1,_⟩:=St q;have:=d.z r
  omega) d.one (fun e=>x (Ih (by rw[<-o,<-DF (f:=fun z=>(⟨1,mz z⟩:Nt)),e];rfl))) (jf d) (by rw[DF,o];omega) (by rw[A];exact w.1) (by rw[A];exact w.2) (fun D' u=>i.files.up u (fun m p=>by have:=NE L p;omega) fun m p=>d.Ahh p) fun D' u hs=>by
   rw[A,I];have:=(d.files v i.files u hs).2.2.1;rwa[P]at this
 refine this.imp ?_ fun _ _ _ _ q=>q;rw[DF,o];omega
def kL(l:Ae En)(ps:Ae Xt)(h:Ajb ps=Ajb l)(ms:Ae M)(a:Dg M.path ms):
 (Dl ms (l.map Eu)).map M.path=SG (l.map En.path) (ms.map M.path)/\(Dl ms (HK DC l ps)).map M.path=SG (l.map En.path) (ms.map M.path):=by
 constructor
 .rw[Np a]
  have e:(l.map Eu).foldl Pz ms=(l.map fun x=>(Eu x).mem).foldl (fun l m=>Cd M.path m l) ms:=by
   rw[WD,WD];rfl
  rw[e,ah,EO];rfl
 .rw[Np a,bV,YD]
  have e:(ps.zip l).foldl (fun l z=>Cd M.path (mz z) l) ms=((ps.zip l).map mz).foldl (fun l m=>Cd M.path m l) ms:=by
   rw[WD]
  rw[e,ah,EO];have d:(ps.zip l).map (M.path∘mz)=((ps.zip l).map Sb).map En.path:=by rw[EO];rfl
  rw[d,List.map_snd_zip X]
def yg(l:Ae En)(ms:Ae M)(a:Dg M.path ms)(d:(l.map En.path).Nodup):Ajb l<=Ajb (Dl ms (l.map Eu)):=by
 have e:=(kL l (BJ (Ajb l) (0,0)) Bi ms a).1;have q:=(jH (l.map En.path) (ms.map M.path) (VB (k1:=M.path) (k2:=id) Bi a)).1;rw[<-e]at q;have:=ZD _ _ d q;rwa[DF,DF]at this
def zx{l:Ae En}:Fy l≠190:=by
 induction l with
 |nil=>exact nofun
 |cons x l ih=>
  unfold Fy;split
  .decide
  .split
   .decide
   .exact ih
def lC{cap:H}{E0:Ae Xt}:∀(l:Ae En) (ps:Ae Xt),(Fj cap E0 ps l).2≠190
 |[],ps=>by rw[Fj];exact nofun
 |x::l,ps=>by
  rw[Fj];split
  .unfold Ez;split
   .exact nofun
   .show(if _ then 2 else 220:Y)≠190;split<;>decide
  .exact lC l _
def FX(V:Vl)(r:Vl×Y)(k:Y)(fs fs':Ae En):Prop:=r.1.D.cap=V.D.cap/\r.1.D.at_<=V.D.at_/\((r.2≠190/\∃g nx,VJ r.1 g nx k (if r.2=0 then fs' else fs))∨(r.2=190/\V.D.at_≠0/\(Fell r.1 k fs∨Fell r.1 k fs')))
def GD.call{r:Vl×Y}{Q:Y->Y->Prop}(h:GD V r k fs fs' Q):FX V r k fs fs':=
 ⟨h.1,h.2.1,h.2.2.imp (fun⟨a,g,nx,b,_⟩=>⟨X,g,nx,by rw[Ai a];exact b⟩) id⟩
def VJ.bad(h:VJ V g nx k fs){e k':Y}(h1:e≠190)(h0:e≠0)(hk:k<=k'):FX V (V,e) k' fs fs':=⟨Z,Bv _,.inl ⟨h1,g,nx,by rw[Ag (show(V,e).2≠0 from h0)];exact h.more hk⟩⟩
def VJ.same(h:VJ V g nx k fs){k':Y}(hk:k<=k'):FX V (V,0) k' fs fs:=⟨Z,Bv _,.inl ⟨(by show(0:Y)≠190;decide),g,nx,by rw[Ai Z];exact h.more hk⟩⟩
def VJ.put(h:VJ V g nx k fs)(hk:k<=700000000)(l:Ae En):FX V (EH V l) (k+100000) fs (l.foldl CW fs):=by
 unfold EH;rw[Ag h.live];unfold Ev;by_cases m:Fy l≠0
 .rw[Ai m];exact h.bad zx m X
 rw[Ag m];have e:=lI (Dk.1 m);unfold NG;by_cases n:¬(l.map En.path).Nodup
 .rw[Ai n];exact h.bad Bc Bc X
 rw[Ag n];have C:=Dk.1 n;unfold LH;by_cases q:16<Ajb (Dl V.mems (l.map Eu))
 .rw[Ai q];exact h.bad Bc Bc X
 rw[Ag q];unfold NH;by_cases j:(Fj V.D.cap (BY V.mems) [] l).2≠0
 .rw[Ai j];exact h.bad (lC _ _) j X
 rw[Ag j];have x:=Dk.1 j;by_cases d:l=[]
 .subst d;unfold Go.Proofs.YtkmlafmjaeeanaaGreatDoor.putF;rw[Ai Z];exact h.same X
 obtain⟨o,I⟩:=h.arc.ok;obtain⟨f,w,v,t⟩:=lD l [] _ (by rw[List.append_nil];exact o.ext) (Prod.ext Z x:Fj V.D.cap (BY V.mems) [] l=((Fj V.D.cap (BY V.mems) [] l).1,0));rw[EP]at w;rw[w]at t ⊢
 have a:Ajb f=Ajb l:=by
  have:=Av DZ v;rwa[DF,DF]at this
 have r:=yg l V.mems o.rises C;obtain⟨A,y⟩:=kL l f a V.mems o.rises
 have E:Ajb (Dl V.mems (HK DC l f))<=16:=by
  have:=Av DZ (y.trans A.symm);rw[DF,DF]at this;omega
 have B:Plac V.D.cap V.mems (f.zip l):=by
  refine⟨by rw[List.map_fst_zip X];exact t,fun z p=>e _ (List.of_mem_zip p).2,fun z p=>?_⟩;obtain⟨i,G,rfl⟩:=List.getElem_of_mem p;rw[List.length_zip]at G;have:=Av (fun l=>l[i]?) v;simp only[Eh]at this;rw[BR X,BR X]at this;rw[List.getElem_zip];simpa using this
 exact(h.putF X a B d E X).call
end
section
variable{V:Vl}{D:Dv}{g nx k:Y}{ms:Ae M}{fs fs':Ae En}
def xG{p:BN}(h:(CC V p).2=0):Cw p=0:=by
 unfold CC at h;split at h
 .cases h
 .split at h
  .cases h
  .rename_i q;exact Dk.1 q
def kw(h:¬(V.broken=Af∨V.D.dead=Af))(p:BN):(CC V p).2≠190:=by
 unfold CC;rw[Ag h];split
 .exact nofun
 .split<;>exact nofun
def VJ.Ahs(h:VJ V g nx k fs)(hk:k<=900000000)(p:BN)(q:(CC V p).2=0):GD V (Lt V p) (k+100) fs (ET fs p) fun _ _=>(Lt V p).1.mems=V.mems.filter fun y=>decide (y.path≠p):=by
 unfold Lt;rw[Ag (fun z=>z q)];refine(h.room X (n:=2) Bc).trans (k':=k+100) X (fun z=>Ai z) fun w f l a⟨x,j⟩=>?_;have l:(CQ V 2).2=0:=l;have a:VJ (CQ V 2).1 w f (k+6) fs:=a;have j:(CQ V 2).1.mems=V.mems:=j;show GD (CQ V 2).1 _ _ _ _ _;rw[Ag (fun z=>z l),<-j];generalize(CQ V 2).1=R at a ⊢;have v:=xG q;obtain⟨e,t⟩:=a.arc.ok
 have i:Dl R.mems [⟨2,bare p⟩]=R.mems.filter fun y=>decide (y.path≠p):=by
  rw[Np e.rises];show Pz R.mems ⟨2,bare p⟩=_;unfold Pz;rw[Ag (show ¬(2:H)=1 by decide),Ai Z];rfl
 have d:Wal.Good [⟨2,bare p⟩]:=fun n r=>by
  rw[CF]at r;subst r;refine⟨?_,by show 0<=4294967295;decide⟩;unfold CJ;rw[UC,Ai ⟨v,Z⟩];exact nofun
 have:=fq (ns:=[⟨2,bare p⟩]) (fs':=ET fs p) a.arc a.gen a.next a.good a.sm a.gk a.ok a.files (by rw[i];exact a.files.del p) nofun d (by show f+1+1<=20;omega) (by
  rw[i];exact⟨BC (RR _ _) e.len,fun m o=>e.may m (Kk.1 o).1,HE.sublist List.filter_sublist e.rises,tU e.ext p⟩) (by
  rw[i];exact fun m o=>t m (Kk.1 o).1)
 exact this.imp (by show k+6+(1+2)<=_;omega) fun _ _ _ _ z=>z.trans i
def VJ.delete(h:VJ V g nx k fs)(hk:k<=900000000)(p:BN):FX V (Lt V p) (k+100) fs (ET fs p):=by
 by_cases q:(CC V p).2=0
 .exact(h.Ahs hk p q).call
 .unfold Lt;rw[Ai q];exact h.bad (kw h.live p) q X
def Bt.now{a:Ae Ch}{n:Y}{r:Dv×Y}(b:Bt D a n r)(h0:r.2=0):r.1.now=GH a D.now:=by
 rcases b.out with⟨_,_,_,q,_⟩|⟨q,_⟩
 .exact q
 .rw[h0]at q;cases q
def fx{t:BN}{a b:Y}(hm:Ajb t%512=0)(o:a+Ajb t/512<=b∨b+Ajb t/512<=a):∀(n i:Y) (D:Dv),i+n=Ajb t/512->D.dead=Aj->D.Ok->At D.now a t->b+Ajb t/512<=D.cap->Bt D (chs (b+i) ((EE t).drop i)) (2*n) (Nr (a:H) (b:H) n i D)
 |0,i,D,h,hd,_,_,_=>by
  rw[Oq (by rw[Mh];omega)];exact Bt.nil hd
 |n+1,i,D,h,hd,hok,hat,hb=>by
  have hlt:i<Ajb t/512:=X;have hh:=hat.has;obtain⟨r1,r2⟩:=Bt.read hd (i:=((a+i:Y):H)) X X;have ea:(a:H)+(i:H)=((a+i:Y):H):=X;have eb:(b:H)+(i:H)=((b+i:Y):H):=X;have e1:(D.read ((a+i:Y):H)).2.2=0:=by rw[r2]
  have x:(D.read ((a+i:Y):H)).2.1=BT t i:=by rw[r2];exact hat.sec i hlt
  rw[Nr,ea,eb,e1,x,Ag (fun q=>q Z)];have d:(D.read ((a+i:Y):H)).1.Ok:=lW hok _;have e:(D.read ((a+i:Y):H)).1.now=D.now:=r1.now Z;generalize(D.read ((a+i:Y):H)).1=E at r1 d e ⊢;have m:E.cap=D.cap:=r1.cap;have f:Ajb (BT t i)=512:=by unfold BT;rw[BZ,CM];omega
  have w:=Bt.write (D:=E) (r1.live Z) (i:=b+i) (t:=BT t i) X f
  have v:chs (b+i) ((EE t).drop i)=[.write (b+i) (BT t i)]++chs (b+(i+1)) ((EE t).drop (i+1)):=by
   have p:i<Ajb (EE t):=by rw[Mh];exact hlt
   have r:(EE t)[i]=BT t i:=by
    rw[<-eR hlt,Ck,BR p];rfl
   rw[DE p,r];rfl
  rw[v];by_cases q:(E.write ((b+i:Y):H) (BT t i)).2=0
  .rw[Ag (fun z=>z q)];have l:=w.now q
   have:=fx hm o n (i+1) (E.write ((b+i:Y):H) (BT t i)).1 X (w.live q) (PI d _ _) (by
    rw[l];refine At.up (n:=a+Ajb t/512) (by rw[e];exact hat) (bO d.nowM f _) (Bv _) fun j A y z=>?_;rw[CZ,CF]at z;injection z with z1 z2;omega) (by rw[w.cap,m];exact hb)
   exact(r1.trans Z (w.trans q this)).more X
  .rw[Ai q];exact(r1.trans Z (w.stop q _ (Bv _))).more X
def VJ.Ahq(h:VJ V g nx k fs)(hk:k<=900000000)(p:BN)(d:H)(q:(CC V p).2=0)(N:OkX (BY V.mems++[(d,(CC V p).1.sectors)]) V.D.cap):GD V (Gu V p d) (k+10000) fs fs fun _ _=>(Gu V p d).1.mems=Cd M.path { (CC V p).1 with start:=d } V.mems:=by
 unfold Gu;rw[Ag (fun z=>z q),Ag (fun z=>z N)];obtain⟨o,ai⟩:=ku q;have r5:(CQ V 2).1.D.cap=V.D.cap:=(h.room X (n:=2) Bc).1;refine(h.room X (n:=2) Bc).trans (k':=k+10000) X (fun z=>Ai z) fun g1 P r1 v⟨r3,r4⟩=>?_;have r1:(CQ V 2).2=0:=r1;have v:VJ (CQ V 2).1 g1 P (k+6) fs:=v;have r4:(CQ V 2).1.mems=V.mems:=r4;show GD (CQ V 2).1 _ _ _ _ _;rw[Ag (fun z=>z r1)];generalize(CC V p).1=m at o ai N ⊢;generalize(CQ V 2).1=R at v r4 r5 ⊢;rw[<-r4]at o N ⊢;rw[<-r5]at N;obtain⟨x,hx,ab,i⟩:=v.files.mem o;obtain⟨w,o2⟩:=v.arc.ok;have E:=i.Ahk;have ao:=JN i.fits;obtain⟨z,hz⟩:∃z:Xt×En,z=((d,Cc x),x):=⟨_,Z⟩;have A:z.2=x:=by rw[hz]
 have B:z.1=(d,m.sectors):=by rw[hz,E]
 have I:({ m with start:=d }:M)=mz z:=by
  rw[hz];unfold mz;rw[<-ab,<-E,<-i.size,<-i.sum]
 have C:Plac R.D.cap R.mems [z]:=by
  refine⟨by rw[Co,Ep,B];exact N,fun y S=>?_,fun y S=>?_⟩
  .rw[CF.1 S,A];exact i.fits
  .rw[CF.1 S,hz]
 have Q:z∈[z]:=HI ..;obtain⟨p1,p2,p3,p4,p5⟩:=C.z Q;rw[A]at p2 p4 p5;rw[B]at p1 p2;dsimp only at p1 p2;have a2:=NE w o;have G:apart (m.start,m.sectors) (d,m.sectors):=(Nb.1 N.far).2.2 _ (QG o) _ (HI ..);unfold apart at G;dsimp only at G;have hN:m.sectors.toNat=Ajb (Cl x)/512:=X;have b:=fx (t:=Cl x) (a:=m.start.toNat) (b:=d.toNat) ao.1 X (Ajb (Cl x)/512) 0 R.D X v.arc.rest.dead v.arc.rest.ok i.at_ X;have e1:((m.start.toNat:Y):H)=m.start:=X;have e2:((d.toNat:Y):H)=d:=X
 have a0:chs (d.toNat+0) ((EE (Cl x)).drop 0)=GL [z]:=by
  rw[Ot,Jv];show _=chs z.1.1.toNat (EE (Cl z.2))++[];rw[List.append_nil,A,B]
 rw[e1,e2,a0,<-hN]at b;have eN:([⟨1,{ m with start:=d }⟩]:Ae Nt)=[z].map fun z=>⟨1,mz z⟩:=by rw[I];rfl
 rw[eN];have eA:Dl R.mems ([z].map fun z=>⟨1,mz z⟩)=[z].foldl (fun l z=>Cd M.path (mz z) l) R.mems:=by rw[Np w.rises,YD]
 have L:(mz z).path=m.path:=by rw[<-I]
 have K:(Cd M.path (mz z) R.mems).map M.path=R.mems.map M.path:=by
  rw[Zj,L];exact jv (VB (k1:=M.path) (k2:=id) Bi w.rises) (Cr.2 ⟨m,o,Z⟩)
 have W:Ajb (Cd M.path (mz z) R.mems)<=16:=by
  have:=Av DZ K;rw[DF,DF]at this;have:=w.len;omega
 have af:=MF M.path (mz z) w.rises
 have T:=lT (zs:=[z]) C w o2 af (by
  have:=Yi (m:=mz z) (r:=[]) (cap:=R.D.cap) w.rises (by
   have q:=C.ok;rw[Co,Ep]at q;exact q)
  rw[List.append_nil]at this;exact this) (fun m' aj=>by
  rcases(Ms M.path (mz z) w.rises m').1 aj with q|q
  .exact .inr ⟨z,Q,q⟩
  .exact .inl q.1) W
 have al:=VB v.files.keys w.rises
 have:=v.after (fs':=fs) (ns:=[z].map fun z=>⟨1,mz z⟩) b C.wr C.okc (fun j t q=>by
  obtain⟨y,S,a1,_⟩:=St q;rw[CF.1 S,B]at a1;dsimp only at a1
  omega) C.one nofun (jf C) (by show P+1+1<=20;omega) (by rw[eA];exact T.1) (by rw[eA];exact T.2) (fun D' u=>v.files.up u (fun m hm=>by have:=NE w hm;omega) fun m hm=>C.Ahh hm) fun D' u hs=>by
   rw[eA];have q:=(C.files w.rises v.files u hs).2.2.1
   have e:([z].map Sb).foldl (fun f x=>Cd En.path x f) fs=fs:=by
    show Cd En.path z.2 fs=fs;rw[A];exact jv al hx
   rwa[e]at q
 refine this.imp (by show k+6+(2*m.sectors.toNat+1)+(1+2)<=_;omega) fun _ _ _ _ y=>?_;rw[y,eA,I];rfl
def VJ.move(h:VJ V g nx k fs)(hk:k<=900000000)(p:BN)(a:H):FX V (Gu V p a) (k+10000) fs fs:=by
 by_cases q:(CC V p).2=0
 .by_cases d:OkX (BY V.mems++[(a,(CC V p).1.sectors)]) V.D.cap
  .exact(h.Ahq hk p a q d).call
  .unfold Gu;rw[Ag (fun z=>z q),Ai d];exact h.bad Bc Bc X
 .unfold Gu;rw[Ai q];exact h.bad (kw h.live p) q X
def tW(c:Ch)(j:Y)(bs:Ae Ar)(s:BN):DN ([c].take j) bs s=s∨DN ([c].take j) bs s=c.ap s:=by
 cases j with
 |zero=>exact .inl Z
 |succ j=>
  rw[show[c].take (j+1)=[c] by simp];rcases bs with _|⟨b,bs⟩
  .exact .inl Z
  .cases b
   .exact .inl (by simp[DN])
   .exact .inr (by simp[DN])
def VJ.trim(h:VJ V g nx k fs):GD V (MO V) (k+2) fs fs fun _ _=>(MO V).1.mems=V.mems:=by
 have I:=gr V;have K:=h.arc.ok.1;have N:=h.gk
 have f:∀m∈V.mems,m.start+m.sectors<=Ff V:=fun m L=>by
  unfold Ff;rw[Ai (QT (g:=0) K Bc).chk.ext];exact(Yf _).2 _ (QG L)
 unfold MO;rw[Ag h.live];split
 .exact⟨Z,Bv _,.inl ⟨Z,g,nx,h.more X,Z⟩⟩
 rename_i x;have n:=h.arc.rest;have A:=n.ok.now;obtain⟨e,he⟩:∃e:Y,Ff V=(e:H):=⟨(Ff V).toNat,X⟩;rw[he]at x I f ⊢
 have W:V.D.cut (e:H)=V.D.Ago (J (.cut e)):=by
  unfold Dv.cut;rw[Ag (by rw[n.dead];decide),Ag X];rfl
 rw[W];have b:=Bt.Ago n.dead (.cut e);have s:=Sy.of n b;have o:∀c∈[Ch.cut e],c.ok V.D.cap:=fun c P=>by rw[CF.1 P];show e<=V.D.cap;omega
 have p:min (Ajb V.D.now) (e*512)=e*512:=Nat.min_eq_right X
 have v:(Ch.cut e).ap V.D.now=V.D.now.take (e*512):=by
  show V.D.now.take (min (Ajb V.D.now) (e*512))=_;rw[p]
 have l:∀w,w=V.D.now∨w=(Ch.cut e).ap V.D.now->Upn e (fun _ _=>False) V.D.now w:=fun w q=>by
  rcases q with rfl|rfl
  .exact Upn.refl _ _ _
  .rw[v];have B:Ajb (V.D.now.take (e*512))=e*512:=by rw[BZ];exact Hb X
   exact⟨.inr X,fun j hj=>.inl ⟨X,by
    unfold BT;rw[WA,WN,Hb X]⟩⟩
 have i:∀r:Dv×Y,Sy V.D [.cut e] 2 r->r.2≠0->∀b,GD V (({ V with D:=r.1,broken:=b }:Vl),r.2) (k+2) fs fs fun _ _=>V.mems=V.mems:=fun r s z b=>by
  obtain⟨T,y,S,j,Q⟩:=s.Ahf n o z;have u:=l r.1.now (by rw[Q];exact tW _ _ _ _);have a:=h.arc.up (D':=Ef r.1) y.up s.cap u X (fun j t q=>q.elim);exact⟨s.cap,s.at_,.inr ⟨T,S,.inl ⟨y,h.ok.Aha b y.ok (s.sm h.sm),g,V.mems,X,a.can,h.files.up u f (fun m _ j _ _ t q=>q)⟩⟩⟩
 generalize V.D.Ago (J (.cut e))=c at b s ⊢;obtain⟨E,d⟩:=c;by_cases q:d=0
 .subst q;rw[Ai Z]at s;rw[Ag (fun q=>q Z)];by_cases z:E.sync.2=0
  .obtain⟨G,C⟩:=s.live n o z;have u:=l E.sync.1.now (.inr C);refine⟨s.cap,s.at_,.inl ⟨z,g,nx,⟨h.arc.up G s.cap u X (fun j t q=>q.elim),h.files.up u f (fun m _ j _ _ t q=>q),h.gen,h.next,?_,s.sm h.sm,X⟩,Z⟩⟩;show(V.broken||decide (E.sync.2≠0))=Aj;rw[h.good,z];rfl
  .exact i _ s z _
 .rw[Ag (show ¬(E,d).2=0 from q)]at s;rw[Ai (show(E,d).2≠0 from q)];exact i _ s q Af
inductive Lim(c K:Y):Ae M->Y->Prop
 |nil {k:Y}:k+2<=K->Lim c K [] k
 |cons {m:M} {L:Ae M} {k:Y}:k+c<=K->Lim c K L (k+c)->Lim c K (m::L) k
def jO{c K:Y}:∀(L:Ae M) (k:Y),k+c*Ajb L+2<=K->Lim c K L k
 |[],k,h=>.nil (by rw[EZ,Nat.mul_zero]at h;exact h)
 |m::L,k,h=>by
  have e:k+c*Ajb (m::L)+2=k+c+c*Ajb L+2:=by
   rw[Cz,Nat.mul_add_one,TX (c*Ajb L) c,Kq k c]
  rw[e]at h;exact .cons (BC (BC (Qf _ (c*Ajb L)) (Qf _ 2)) h) (jO L (k+c) h)
def FX.trans{R r:Vl×Y}{k':Y}{a:Ae En}(h:FX V R k fs fs)(hk:k<=k')(h0:R.2≠0->r=R)(h1:∀g nx,R.2=0->VJ R.1 g nx k fs->FX R.1 r k' fs a):FX V r k' fs a:=by
 obtain⟨f,e,⟨v,g,nx,d⟩|⟨t,p,o⟩⟩:=h
 .rw[ite_self]at d;by_cases q:R.2=0
  .obtain⟨n,m,l⟩:=h1 g nx q d;exact⟨n.trans f,BC m e,l.imp id fun⟨j,w,i⟩=>⟨j,X,i⟩⟩
  .rw[h0 q];exact⟨f,e,.inl ⟨v,g,nx,by rw[Ag q];exact d.more hk⟩⟩
 .rw[h0 X];exact⟨f,e,.inr ⟨t,p,.inl ((o.elim id id).more hk)⟩⟩
def FX.more{r:Vl×Y}{k':Y}(h:FX V r k fs fs')(hk:k<=k'):FX V r k' fs fs':=
 ⟨h.1,h.2.1,h.2.2.imp (fun⟨a,g,nx,b⟩=>⟨a,g,nx,b.more hk⟩) fun⟨a,b,c⟩=>⟨a,b,c.imp (·.more hk) (·.more hk)⟩⟩
def ul{l:Ae Xt}{cap n:H}:(Ez l cap n).2≠190:=by
 unfold Ez;split
 .exact nofun
 .show(if _ then 2 else 220:Y)≠190;split<;>decide
def VJ.comp{K:Y}(r:K<=800000000){L:Ae M}{k:Y}(hL:Lim 20000 K L k):∀{V:Vl} {g nx:Y} {a:H},VJ V g nx k fs->FX V (Lq V a L) K fs fs:=by
 induction hL with
 |nil hk=>
  intro V g nx a h;exact h.trim.call.more hk
 |@cons m L k hk _ ih=>
  intro V g nx a h;have x:k+20000<=900000000:=BC hk (BC r Bc);have n:k+10000<=k+20000:=Nat.add_le_add_left Bc k;have p:k+10000<=900000000:=BC n x;have w:k<=900000000:=BC (Qf _ _) p;have o:k<=k+10000:=Qf _ _;have v:k+10000+10000<=k+20000:=Oy (Kq k 10000 10000)
  have d:FX V (Im V a m) (k+10000) fs fs:=by
   unfold Im;split
   .split
    .rename_i z;exact h.bad ul z o
    .exact h.move w m.path _
   .exact h.same o
  have f:FX V (OT (Im V a m) a m) (k+20000) fs fs:=by
   refine d.trans n (fun q=>YT q a m) fun t l j i=>?_;have e:Im V a m=((Im V a m).1,0):=Prod.ext Z j;rw[e,YU];split
   .exact(i.move p m.path a).more v
   .exact i.same n
  unfold Lq
  exact f.trans hk (fun q=>Ai q) fun t l j i=>by
   rw[Ag (fun z=>z j)];exact ih i
def VJ.Aiz(h:VJ V g nx k fs)(hk:k<=700000000){L:Ae M}(hL:Ajb L<=16):FX V (Lr V L) (k+400000) fs fs:=by
 unfold Lr;split
 .rename_i z;refine h.bad (fun e=>?_) z (Qf _ _);obtain⟨_,_,⟨q,_⟩|⟨_,_,q⟩⟩:=h.put hk []
  .exact q e
  .have:(EH V []).1.D.dead=Af:=q.elim (fun q=>q.gone.dead) fun q=>q.gone.dead;rw[lR]at this;exact h.live (.inr this)
 .have q:20000*Ajb L<=320000:=Nat.mul_le_mul_left 20000 hL;exact VJ.comp (K:=k+400000) (BC (Nat.add_le_add_right hk _) Bc) (jO L k (BC (Nat.add_le_add_right (Nat.add_le_add_left q k) 2) (by rw[Kq];exact Nat.add_le_add_left Bc k))) h
def rh{k:Y}(hk:k<2){a:H×Ae M}(h1:DQ D k=J a)(d:DQ D (1-k)=Aa∨∃b,DQ D (1-k)=J b/\b.1<a.1)(f:D.dead=Aj):Hw D=(a.1,a.2,0):=by
 unfold Hw;rw[Ag (by rw[f];decide)];rcases(show k=0∨k=1 by omega)with rfl|rfl
 .rw[h1];rw[show 1-0=1 from Z]at d;rcases d with d|⟨b,d,e⟩
  .rw[d];rfl
  .rw[d];exact Ai e
 .rw[h1];rw[show 1-1=0 from Z]at d;rcases d with d|⟨b,d,e⟩
  .rw[d];rfl
  .rw[d];exact Ag X
def yw{l:Ae M}{cap:H}(h:OkC l cap)(hs:FR l):MsOk l:=⟨fun m hm=>Yu ⟨h.may m hm,hs m hm⟩,by have:=h.len;omega,fun m hm=>by have:=(JO (h.may m hm)).1;omega⟩
def uS{ns:Ae Nt}(h:Wal.Good ns):∀n∈ns,n.mem.Ok/\Ajb n.mem.path<=2000000:=fun n d=>by
 obtain⟨a,b⟩:=h n d
 have e:Ajb n.mem.path<=120:=by
  unfold CJ IX at a;split at a
  .split at a
   .rename_i q;exact(JO q).1
   .exact AI Z a
  .split at a
   .split at a
    .rename_i q;exact Xy q.1
    .exact AI Z a
   .exact AI Z a
 exact⟨⟨X,b⟩,X⟩
def Can.found(h:Can D g ms)(y:g<4611686018427387904):Finds D g ms (Fk (CU D) g):=by
 obtain⟨m,a,nx,v,t,r,o,rfl,f⟩:=h.made;have n:=rh (k:=g%2) X v.Ahi h.oth h.rest.dead
 have p:CU D=Dh D (Mv D):=by
  unfold CU;rw[Ag (by rw[h.rest.dead];decide)]
 have w:Ajb a<=Dw a:=by
  have:∀a:Ae (Ae Nt),Ajb a<=Dw a:=fun a=>by
   induction a with
   |nil=>exact BE _
   |cons l a ih=>rw[PE,Cz];omega
  exact this a
 refine .some (nx:=nx) n ?_ X X (fun i e=>⟨yw (f i e).1 (f i e).2,fun _=>Si (f i e).1⟩) (fun d j=>⟨?_,uS (r d j).1⟩) X
 .unfold JQ;rw[Ag (by unfold JD;omega),p,Ag (by show ¬D.dead=Af;rw[h.rest.dead];decide)];exact Av (fun x=>(x,0)) t
 .have:∀(a:Ae (Ae Nt)),d∈a->Ajb d<=Dw a:=fun a=>by
   induction a with
   |nil=>exact fun q=>by cases q
   |cons l a ih=>
    intro q;rw[PE];rcases List.mem_cons.1 q with rfl|q
    .omega
    .have:=ih q;omega
  have:=this a j;omega
def uD(a:D.dead=Aj)(g:H):∃c,Fk (CU D) g={ D with calls:=c }:=by
 unfold CU;rw[Ag (by rw[a];decide)];exact⟨_,Z⟩
structure FellD(D:Dv)(k:Y)(fs:Ae En):Prop where
 gone:Gone D
 sm:Sm D k
 can:∃g ms,g<=k/\Can (Ef D) g ms/\Fil (Ef D) ms fs
def Fell.dev(h:Fell V k fs):FellD V.D k fs:=⟨h.gone,h.ok.sm,h.can⟩
def Arc.calls{D':Dv}(h:Arc D g nx ms)(e:∃c,D'={ D with calls:=c }):Arc D' g nx ms:=by
 obtain⟨c,rfl⟩:=e;exact⟨⟨⟨h.rest.ok.cap,h.rest.ok.kept,h.rest.ok.now,h.rest.ok.keptM,h.rest.ok.nowM,h.rest.ok.pend⟩,h.rest.dead,h.rest.pend,h.rest.kept⟩,h.cap,h.made,h.oth⟩
def Acm(D:Dv)(c k:Y):DQ { D with calls:=c } k=DQ D k:=by
 have e:Right { D with calls:=c } k↔Right D k:=⟨fun⟨a,b,c,d⟩=>⟨a,b,c,d⟩,fun⟨a,b,c,d⟩=>⟨a,b,c,d⟩⟩;unfold DQ;by_cases q:Right D k
 .rw[Ai q,Ai (e.2 q)];rfl
 .rw[Ag q,Ag (fun z=>q (e.1 z))]
def Can.calls{D':Dv}(h:Can D g ms)(e:∃c,D'={ D with calls:=c }):Can D' g ms:=by
 obtain⟨c,rfl⟩:=e;exact⟨⟨⟨h.rest.ok.cap,h.rest.ok.kept,h.rest.ok.now,h.rest.ok.keptM,h.rest.ok.nowM,h.rest.ok.pend⟩,h.rest.dead,h.rest.pend,h.rest.kept⟩,h.cap,h.made,by rw[Acm];exact h.oth,h.log⟩
def Can.opened(h:Can D g ms)(x:D.at_=0∨∃nx,Arc D g nx ms)(hf:Fil D ms fs)(p:Sm D k)(r:g+1<=k+40)(hk:k<=900000000):
 (CR (Fk (CU D) g) ((g:H)+1) ms).1.cap=D.cap/\(CR (Fk (CU D) g) ((g:H)+1) ms).1.at_<=D.at_/\
 (((CR (Fk (CU D) g) ((g:H)+1) ms).2=0/\VJ ⟨(CR (Fk (CU D) g) ((g:H)+1) ms).1,(g:H)+1,0,ms,Aj⟩ (g+1) 0 (k+40) fs)∨
  ((CR (Fk (CU D) g) ((g:H)+1) ms).2=190/\D.at_≠0/\FellD (CR (Fk (CU D) g) ((g:H)+1) ms).1 (k+40) fs)):=by
 have i:=(h.found X).dev h.rest.ok p;obtain⟨c,m⟩:=uD h.rest.dead (g:H);have n:=h.calls (D':=Fk (CU D) g) ⟨c,m⟩;have v:D.at_=0∨∃nx,Arc (Fk (CU D) g) g nx ms:=x.imp id fun⟨nx,q⟩=>⟨nx,q.calls ⟨c,m⟩⟩;have f:(Fk (CU D) g).at_=D.at_:=by rw[m]
 have l:Fil (Fk (CU D) g) ms fs:=hf.same (by rw[m]);have d:(Fk (CU D) g).cap=D.cap:=by rw[m]
 generalize Fk (CU D) g=E at i n v f l d ⊢;have e:(g:H)+1=((g+1:Y):H):=X;have w:=n.cap;have o:=n.ok.1;rw[e,<-f,<-d];rw[<-f]at v;have b:=aE (g:=g+1) n.rest (QT o X) o X;refine⟨b.cap,b.at_,?_⟩;by_cases z:(CR E ((g+1:Y):H) ms).2=0
 .obtain⟨a,u⟩:=n.saved X b z;exact .inl ⟨z,a,Pe l o u (fun j t q=>by omega),Z,Z,Z,(b.sm i.2).more X,r⟩
 .rcases v with q|⟨nx,q⟩
  .exact AI (b.zero q) z
  .obtain⟨C,B,A,⟨G,I,y⟩,u⟩:=q.Ahm X b z;exact .inr ⟨C,A,B,(b.sm i.2).more X,G,ms,X,y,Pe l o u (fun j t q=>by omega)⟩
def xU{n:Y}(G:31<=n/\n<=4096):Finds (fresh n []) (-1) [] (CU (fresh n []))/\(CR (CU (fresh n [])) (-1+1) []).2=0/\VJ ⟨(CR (CU (fresh n [])) (-1+1) []).1,-1+1,0,[],Aj⟩ 0 0 10 []/\(CR (CU (fresh n [])) (-1+1) []).1.cap=n/\(CR (CU (fresh n [])) (-1+1) []).1.at_=0:=by
 have v:Cat.Rest (fresh n []):=⟨gX X Bi Bi,Z,Z,Z⟩
 have d:∀k,¬Fh (fresh n []) k:=fun k h=>by
  unfold Fh at h;have:(fresh n []).now.length/512=0:=Nat.zero_div 512;omega
 have f:(fresh n []).dead=Aj:=rfl
 have j:Hw (fresh n [])=(0,[],230):=by
  unfold Hw;rw[Ag (by rw[f];exact Bool.false_ne_true)];have e:∀k,DQ (fresh n []) k=Aa:=fun k=>Ag fun q=>d k q.has;rw[e,e];rfl
 have y:CU (fresh n [])=fresh n []:=by
  unfold CU Mv;rw[Ag (by rw[f];exact Bool.false_ne_true),Ag (d 0),Ag (d 1)];rfl
 have L:(-1+1:H)=((0:Y):H):=by decide
 have w:Finds (fresh n []) (-1) [] (CU (fresh n [])):=.none (by rw[j]) (by rw[j]) (by show(0:Y)/512<=5;decide);rw[y]at w;rw[y,L];have p:OkC [] (n:H):=⟨Bc,Bi,HE.nil,⟨X,by simp[BY],HE.nil⟩⟩;have x:FR []:=fun m I=>by cases I
 have b:=aE (D:=fresh n []) (g:=0) v (QT p Bc) p (by show 10<=n;omega);have z:=b.zero Z;have r:∀t∈EJ ((0:Y):H) (Cf []),Ajb t=512:=Te _;have C:=NU _ (0%2*5) r;obtain⟨B,A⟩:=b.live v (Qw r (by rw[IC];show 0+5<=n;omega)) z;have E:∀i,i<5->(0%2*5+i+1)*512<=(CR (fresh n []) ((0:Y):H) []).1.now.length/\BT (CR (fresh n []) ((0:Y):H) []).1.now (0%2*5+i)=Jf ((0:Y):H) (Cf []) i:=fun i o=>b.has v C z XC (js o)
 have a:(CR (fresh n []) ((0:Y):H) []).1.now.length=2560:=by
  rw[A,dN,dM _ _ _ r Z,Ag (fun e=>by have:=Av DZ e;rw[IC]at this;cases this),IC];rfl
 refine⟨w,z,⟨⟨B,by rw[b.cap];exact G.1,⟨[],[],⟨by show(0%2*5+5)*512<=(CR (fresh n []) ((0:Y):H) []).1.now.length;rw[a];decide,fun i o=>(E i o).2,Bc,by rw[b.cap];exact p,x⟩,⟨fun l j=>by(cases j),Z,Bc,.inl Z,fun k K=>absurd K (WU k),fun k _ _ h=>?_⟩,Z,fun i _=>by rw[List.take_nil,b.cap];exact⟨p,x⟩⟩,fun i o h=>?_⟩,.nil,Z,Z,Z,(b.sm (k:=0) ⟨by simp[fresh],by simp[fresh],by simp[fresh],by simp[fresh]⟩).more Bc,BE _⟩,b.cap,sy_at b Z⟩
 .exfalso;have h:10+k<(CR (fresh n []) ((0:Y):H) []).1.now.length/512:=h;rw[a]at h;omega
 .exfalso;have h:(1-0%2)*5+i<(CR (fresh n []) ((0:Y):H) []).1.now.length/512:=h;rw[a]at h;omega
def VJ.calls(h:VJ V g nx k fs)(n:Y):VJ { V with D:=Dh V.D n } g nx (k+n) fs:=
 ⟨h.arc.calls ⟨_,Z⟩,h.files.same Z,h.gen,h.next,h.good,Vy h.sm n,by have:=h.gk;omega⟩
def VJ.Ahg(h:VJ V g nx k fs){i:Y}(hi:i<Ajb V.mems):CC V V.mems[i].path=(V.mems[i],0):=by
 obtain⟨a,l⟩:=h.arc.ok;have d:=a.may _ (BM hi);unfold CC;rw[Ag h.live,Ag (fun q=>q d.1)]
 have e:V.mems.find? (fun m=>decide (m.path=V.mems[i].path))=J V.mems[i]:=by
  cases hf:V.mems.find? (fun m=>decide (m.path=V.mems[i].path))with
  |none=>
   rw[List.find?_eq_none]at hf;exact AI (AL Z) (hf _ (BM hi))
  |some m=>
   have j:=List.mem_of_find?_eq_some hf;have f:m.path=V.mems[i].path:=by simpa using List.find?_some hf
   rw[mn a.rises j (BM hi) f]
 rw[e]
end
end
section
attribute [local irreducible] OW KW QW EX GW NV
open Pth Rec Srt Dsk Wal Cat Tar
section
variable{w w':Ad}{B vb db:Y}{V:Vl}{g nx k:Y}{fs:Ae En}
def tJ{x y:En}(h1:x.path=y.path)(a:x.data=y.data):x=y:=by
 cases x;cases y;dsimp only at h1 a;rw[h1,a]
def SF(h:VAt w B vb db V)(hv:VJ V g nx k fs)(hk:k<=700000000)(ai:∀w',Tm w w' B vty->Env w')(l:Ae En)(hl:Ajb l<=1000000)(A:Aw AC)(c:Y)(T:∀w',Tm w w' B vty->∃C,Sl w' C A (CO l))(bx:B<=w.heap.size):
 Bn prog 16 [.pointer (J ⟨vb,0,Aa⟩),.agg #[.slice A (Ajb l) c]] w fun v w'=>v=.bool (decide (fs=l))/\(∃n,n<=100000/\VAt w' B vb db { V with D:=Dh V.D n })/\Tm w w' B vty:=by
 obtain⟨o1,o2⟩:=hv.arc.ok;have bm:=o1.len;have ba:=hv.files.len;refine Bw func16 Z ntmps16 Be Z ?_;refine(O 2) ?_;refine Dz Z Z Z ?_;rintro mb w1 bn bc K;refine(O 5∘Zc (vV (h.ext K) X)) ?_;rintro _ w2⟨j,I⟩;obtain⟨A2,c2,rfl,_,bj⟩:=j.slice;refine(O 8) ?_;have h2:=(h.ext K).ext I;have bb:=bc.ext I;have Q:Tm w w2 B vty:=Tm.Agk (K.trans I) _ _;refine(O 4)<|Zi (fun a6=>?_) fun a6=>?_
 .refine(O 4∘Br) ?_;refine⟨?_,⟨0,Bc,h2⟩,Q⟩;rw[AN (fun e=>by rw[e]at ba;omega)]
 .refine(O 7)<|Lo (fun((i,n,wr):Y×Y×Ad)=>(i<=Ajb l/\fs.take i=l.take i/\n<=5000*i/\VAt wr B vb db { V with D:=Dh V.D n }/\Tm w2 wr B vty,[(0,.pointer (J ⟨vb,0,Aa⟩)),(3,.pointer (J ⟨mb,0,Aa⟩)),(5,.slice A2 (Ajb V.mems) c2),(6,U i)],wr,Ajb l-i)) (0,0,w2) ?_ ?_
  .exact⟨BE _,Z,BE _,h2,Tm.refl _ _ _⟩
  .rintro⟨i,n,wr⟩⟨hi,L,hn,S,tr⟩;refine(O 8)<|Zi (fun a9=>?_) fun a9=>?_
   .have r:i<Ajb V.mems:=X;have af:i<Ajb fs:=X;have E:i<Ajb l:=X;have W:i<Ajb (V.mems.map M.path):=by rw[DF];exact r
    have q:=hv.calls n;have G:=q.Ahg r;obtain⟨p,N⟩:=q.files.at_ r af;have a7:=NE o1 (BM r);have aj:fs.take (i+1)=fs.take i++[fs[i]]:=(CS af).symm;have ab:l.take (i+1)=l.take i++[l[i]]:=(CS E).symm;have a:fs=l->fs[i]=l[i]:=fun e=>by simp only[e]
    obtain⟨_,_,eA,_,a0⟩:=(tr.own j Bc).slice;cases eA;obtain⟨b,o,rfl,_,d⟩:=VX a0 W;obtain⟨_,a5⟩:=T w (Tm.refl _ _ _);obtain⟨bl,ol,rfl,_,_⟩:=a5.flat (l:=l) (i:=i) (c:=2) (fun _=>rfl) Bc E;rw[Ou]at d;have tw:=Q.trans tr;generalize a8:V.mems[i]=m at d G p N a7;generalize bs:fs[i]=x at p N aj a;refine(O 9∘Zv (Ca d)∘Zc (gw S q.ok X (ai _ tw) (fun w' t=>ai _ (tw.trans t)) m.path x.data m G (by rw[p];exact N) q.live)) ?_;rintro _ w3⟨rfl,h3,t3⟩;refine(O 7) ?_;have f:=tr.trans t3;obtain⟨_,_,bi,_,a3⟩:=(f.own j Bc).slice;cases bi;obtain⟨b3,o3,bh,_,al⟩:=VX a3 W;cases bh;rw[Ou,a8]at al;obtain⟨_,a4⟩:=T w3 (Q.trans f);obtain⟨b0,bq,bf,_,P⟩:=a4.flat (l:=l) (i:=i) (c:=2) (fun _=>rfl) Bc E;cases bf;have ao:=f.bk bb Bc;generalize l[i]=y at ab a P;refine(O 4∘Zq (by exact fun _=>Ca al)∘O 1∘Zq (by exact fun _=>Bp ao)∘O 3∘Zq (by exact fun _=>Ca (P 0 _ Z))∘O 2)<|Nn 43 (fun a1=>?_) fun a1=>?_
    .refine(O 13∘QW.nil) fun nq=>(O 5∘Br) ?_;refine⟨?_,⟨n+m.sectors.toNat,X,?_⟩,Q.trans (f.trans (Tm.Agk (Bf.drewN _ _) _ _))⟩
     .rw[AN (fun e=>a1 (by rw[p,a e]))]
     .rw[<-Vx];exact h3.ext (Bf.drewN _ _)
    .refine(O 4∘Zqf 47∘O 2∘Zq (by exact fun _=>Bp ao)∘O 3∘Zq (by exact fun _=>Ca (P 1 _ Z))∘O 2∘QW.nil) fun nq=>Zi (fun a2=>?_) fun a2=>?_
     .refine(O 4∘Br) ?_;refine⟨?_,⟨n+m.sectors.toNat,X,?_⟩,Q.trans (f.trans (Tm.Agk (Bf.drewN _ _) _ _))⟩
      .rw[AN (fun e=>a2 (by rw[a e]))]
      .rw[<-Vx];exact h3.ext (Bf.drewN _ _)
     .refine(O 7)<|Lb ((i+1),(n+m.sectors.toNat),(w3.drewN nq)) ?_;refine⟨E,?_,X,?_,f.trans (Tm.Agk (Bf.drewN _ _) _ _)⟩
      .rw[aj,ab,L,show x=y from tJ (by rw[<-p];exact Dk.1 a1) (Dk.1 a2)]
      .rw[<-Vx];exact h3.ext (Bf.drewN _ _)
   .obtain rfl:i=Ajb l:=X;rw[Dq X,Dq (Bv _)]at L;refine(O 5∘Br) ?_;exact⟨by rw[AL L],⟨n,X,S⟩,Q.trans tr⟩
end
structure Ta where
 kind:H
 path:Bh
 content:Bh
 tow:H
 files:Ae En
 fA:Aw AC
 fc:Y
 fa:H
 ks:Ae Ar
 kA:Aw AC
 kk:Y
def Ta.cells(a:Ta):Bm:=[U a.kind,Bl a.path,Bl a.content,U a.tow,.slice a.fA (Ajb a.files) a.fc,U a.fa,.slice a.kA (Ajb a.ks) a.kk]
abbrev bg(l:Ae Ta):Bm:=l.flatMap Ta.cells
structure Ta.Ok(a:Ta):Prop where
 tow:-9223372036854775808<=a.tow/\a.tow<=9223372036854775807
 fa:-9223372036854775808<=a.fa/\a.fa<=9223372036854775807
 nil:a.kA=Aa->HP a.ks=[]
 klen:Ajb a.ks<=140737488351232
structure Ta.Few(a:Ta)(most:H):Prop where
 path:Ajb a.path<=200
 files:Ajb a.files<=20
 content:200+min (Ajb a.content:H) 20000<=most
 each:∀x∈a.files,Ajb x.path<=200/\100+min (Ajb x.data:H) 20000<=most
def FU(l:Ae En)(a:Ta):Ae En:=if a.kind=0 then CW l ⟨a.path,a.content⟩else if a.kind=1 then ET l a.path else if a.kind=5 then a.files.foldl CW l else l
section
variable{w w':Ad}
def gL{α:Type}{cells:α->Bm}{c C:Y}{A:Aw AC}{l:Ae α}(d:Sl w C A (l.flatMap cells))(f:∀a,Ajb (cells a)=c)(h0:0<c){i:Y}(hi:i<Ajb l):
 ∃b o,A=J ⟨b,o,Aa⟩/\∀j u,(cells l[i])[j]? =J u->w.cell? ⟨b,o+i*c+j,Aa⟩=J u:=by
 obtain⟨b,o,e,_,h⟩:=d.flat f h0 hi;exact⟨b,o,e,h⟩
def few_s(d:Ae Ta)(most:H)(hm:0<=most/\most<=100000)(A:Aw AC)(c C:Y)(w:Ad)(T:Sl w C A (bg d))(hl:Ajb d<=140737488355328)(G:∀a∈d,∃C',Sl w C' a.fA (CO a.files)/\Ajb a.files<=140737488355328)(hsz:∀a∈d,Ajb a.path<=140737488355328/\Ajb a.content<=140737488355328/\∀x∈a.files,Ajb x.path<=140737488355328/\Ajb x.data<=140737488355328):
 Bn prog 6 [.slice A (Ajb d) c,U most] w fun v w'=>(∃b,v=.bool b/\(b=Af->200*(Ajb d:H)<=most/\∀a∈d,a.Few most))/\w=w':=by
 refine Bw func6 Z ntmps6 Be Z ?_;refine(O 14)<|Lo (fun((i,n):Y×H)=>((i<=Ajb d/\200*(i:H)<=n/\n<=most/\∀a∈d.take i,a.Few most),[(0,.slice A (Ajb d) c),(1,U (most:H)),(5,U (n:H)),(6,U i)],w,Ajb d-i)) (0,0) ?_ ?_
 .exact⟨BE _,Bc,hm.1,Bi⟩
 .rintro⟨i,n⟩⟨hi,ab,W,j⟩;refine(O 8)<|Zi (fun f=>?_) fun f=>?_
  .obtain⟨b,o,rfl,e⟩:=gL T (fun _=>rfl) (by decide:0<7) f;have r:d.take (i+1)=d.take i++[d[i]]:=(CS f).symm;obtain⟨C',B,I⟩:=G _ (BM f);obtain⟨P,N,K⟩:=hsz _ (BM f);generalize d[i]=a at e r B I P N K;refine(O 10∘Zv (Ca (e 2 _ Z))∘O 13∘Zv (Ca (e 1 _ Z))∘O 3)<|Zd 31 (fun a1=>?_) fun a1=>?_
   .refine(O 19∘Br) ?_;exact⟨⟨Aj,Z,nofun⟩,Z⟩
   .refine(O 4∘Zv (Ca (e 4 _ Z))∘O 4)<|Zd 40 (fun a2=>?_) fun a2=>?_
    .refine(O 10∘Br) ?_;exact⟨⟨Aj,Z,nofun⟩,Z⟩
    .refine(O 5)<|Zi (fun a3=>?_) fun a3=>?_
     .refine(O 4∘Br) ?_;exact⟨⟨Aj,Z,nofun⟩,Z⟩
     .refine(O 6)<|Lo (fun((k,q):Y×H)=>((k<=Ajb a.files/\200*(i:H)+200<=q/\q<=most/\∀x∈a.files.take k,Ajb x.path<=200/\100+min (Ajb x.data:H) 20000<=most),[(0,.slice (J ⟨b,o,Aa⟩) (Ajb d) c),(1,U (most:H)),(5,U (q:H)),(6,U i),(7,U k)],w,Ajb a.files-k)) (0,(n+((200+min (Ajb a.content) 20000:Y):H))) ?_ ?_
      .exact⟨BE _,X,X,Bi⟩
      .rintro⟨k,q⟩⟨hk,V,E,D⟩;refine(O 8∘Zv (Ca (e 4 _ Z))∘O 3)<|Zi (fun g=>?_) fun g=>?_
       .obtain⟨L,o2,e2,l⟩:=gL B (fun _=>rfl) (by decide:0<2) g;have t:a.files.take (k+1)=a.files.take k++[a.files[k]]:=(CS g).symm;obtain⟨S,Q⟩:=K _ (BM g);generalize a.files[k]=x at l t S Q;have m:=e 4 _ Z;rw[e2]at m;refine(O 10∘Zv (Ca m)∘O 3∘Zv (Ca (l 1 _ Z))∘O 12∘Zv (Ca m)∘O 3∘Zv (Ca (l 0 _ Z))∘O 3)<|Zd 80 (fun b1=>?_) fun b1=>?_
        .refine(O 10∘Br) ?_;exact⟨⟨Aj,Z,nofun⟩,Z⟩
        .refine(O 5)<|Zi (fun L=>?_) fun L=>?_
         .refine(O 4∘Br) ?_;exact⟨⟨Aj,Z,nofun⟩,Z⟩
         .refine(O 7)<|Lb ((k+1),(q+((100+min (Ajb x.data) 20000:Y):H))) ?_;refine⟨g,X,X,fun y p=>?_⟩;rw[t]at p;rcases Dx.1 p with h|h
          .exact D y h
          .rw[CF.1 h];exact⟨X,X⟩
       .obtain rfl:k=Ajb a.files:=X;rw[Dq (Bv _)]at D;refine(O 7)<|Lb ((i+1),q) ?_;refine⟨f,X,E,fun y p=>?_⟩;rw[r]at p;rcases Dx.1 p with h|h
        .exact j y h
        .rw[CF.1 h];exact⟨X,X,X,D⟩
  .obtain rfl:i=Ajb d:=X;rw[Dq (Bv _)]at j;refine(O 5∘Br) ?_;exact⟨⟨Af,Z,fun _=>⟨X,j⟩⟩,Z⟩
def Aew(n:H)(h0:-9223372036854775808<=n)(h1:n<=9223372036854775807)(w:Ad):Bn prog 9 [U n,U 200] w fun v w'=>(∃c:Y,v=U (c:H)/\31<=c/\c<=230)/\w=w':=by
 have f:(n.tmod 200).natAbs<200:=by rw[Int.natAbs_tmod];exact Ng _ Bc
 have a:0<=n.tmod 200+200:=X;have e:((n.tmod 200+200).tmod 200).natAbs<200:=by rw[Int.natAbs_tmod];exact Ng _ Bc
 have d:0<=(n.tmod 200+200).tmod 200:=Int.tmod_nonneg _ a;refine Bw func9 Z ntmps9 Be Z ?_;refine(O 16∘Br) ?_;exact⟨⟨(31+((n.tmod 200+200).tmod 200)).toNat,Av (Value.int .i64) X,X,X⟩,Z⟩
def bK(l:Ae En)(x:En):Ajb (CW l x)<=Ajb l+1/\∀y∈CW l x,y∈l∨y=x:=by
 have i:∀(l:Ae En) (r:Ae En×Ar),Ajb (l.foldl (GR x) r).1+(!(l.foldl (GR x) r).2).toNat<=Ajb r.1+(!r.2).toNat+Ajb l/\∀y∈(l.foldl (GR x) r).1,y∈r.1∨y∈l∨y=x:=fun l=>by
  induction l with
  |nil=>exact fun r=>⟨Bv _,fun y a=>.inl a⟩
  |cons z l ih=>
   intro r;obtain⟨p,k⟩:=ih (GR x r z)
   have j:Ajb (GR x r z).1+(!(GR x r z).2).toNat<=Ajb r.1+(!r.2).toNat+1/\∀y∈(GR x r z).1,y∈r.1∨y=z∨y=x:=by
    obtain⟨o,d⟩:=r;unfold GR;refine⟨?_,fun y a=>?_⟩
    .cases d<;>by_cases n:Gc x.path z.path<=0<;>by_cases m:Gc x.path z.path=0<;>simp[n,m]<;>omega
    .simp only[Dx]at a;rcases a with(a|a)|a
     .exact .inl a
     .split at a
      .exact .inr (.inr (CF.1 a))
      .cases a
     .split at a
      .exact .inr (.inl (CF.1 a))
      .cases a
   refine⟨?_,fun y a=>?_⟩
   .rw[Kh,Cz];have:=j.1;omega
   .rcases k y a with q|q|q
    .rcases j.2 y q with q|q|q
     .exact .inl q
     .exact .inr (.inl (q▸HI ..))
     .exact .inr (.inr q)
    .exact .inr (.inl (FO _ q))
    .exact .inr (.inr q)
 obtain⟨h,g⟩:=i l ([],Aj);have e:l.foldl (GR x) ([],Aj)=EM x l:=rfl;rw[e]at h g;unfold CW;generalize EM x l=f at h g;obtain⟨o,d⟩:=f;cases d
 .refine⟨?_,fun y a=>?_⟩
  .simp at h ⊢;omega
  .simp only[Wi,if_false,Dx,CF]at a;rcases a with a|a
   .rcases g y a with q|q
    .cases q
    .exact q
   .exact .inr a
 .refine⟨?_,fun y a=>?_⟩
  .simp at h ⊢;omega
  .rcases g y a with q|q
   .cases q
   .exact q
def act_f{d b o:Y}{a:Ta}(h:Bk w d 40 a.cells)(e:a.fA=J ⟨b,o,Aa⟩):w.cell? ⟨d,4,Aa⟩=J (.slice (J ⟨b,o,Aa⟩) (Ajb a.files) a.fc):=by
 rw[<-e];exact h.cell_of Z
structure GoS(w w':Ad)(ab rb mb:Y)(a:Ta):Prop where
 x:Bf w w'
 act:Bk w' ab 40 a.cells
 r:Bk w' rb 33 [.slice Aa 0 0]
 m:∃q,Bk w' mb 33 [q]
def GoS.ext{w a b:Ad}{ab rb mb:Y}{t:Ta}(h:GoS w a ab rb mb t)(hx:Bf a b):GoS w b ab rb mb t:=⟨h.x.trans hx,h.act.ext hx,h.r.ext hx,h.m.imp fun _ q=>q.ext hx⟩
def GoS.put{w a b:Ad}{ab rb mb:Y}{t:Ta}{u:Ah}(h:GoS w a ab rb mb t)(hm:Mo a b [mb])(hb:Bk b mb 33 [u])(n1:ab≠mb)(n2:rb≠mb)(hz:w.heap.size<=mb):GoS w b ab rb mb t:=
 ⟨Bu h.x hm h.x.size (fun k hk=>by simp at hk;omega),h.act.mo hm (by simpa using n1),h.r.mo hm (by simpa using n2),u,hb⟩
def uP(l:Ae En)(hl:Ajb l<=1000)(aj:∀y∈l,Ajb y.path<=2000)(a:Ta)(bf:Ajb a.path<=2000)(bh:Ajb a.files<=20)(a0:∀x∈a.files,Ajb x.path<=2000)(u:Ah)(w:Ad)(hG:Dy w)(ho:Bo w 0 64 2 u (Ajb l) (CO l))(C:Y)(a5:Sl w C a.fA (CO a.files)):
 Bn prog 11 [.agg #[u],.agg a.cells.toArray] w fun v w'=>(∃u',v=.agg #[u']/\Bo w' 0 64 2 u' (Ajb (FU l a)) (CO (FU l a)))/\Bf w w':=by
 obtain⟨A,c,rfl,_,a4⟩:=ho.slice;refine Bw func11 Z ntmps11 Be Z ?_;refine(O 2) ?_;refine Dz Z Z Z ?_;rintro Q w1 bb ao af;refine Dz Z Z Z ?_;rintro W w2 ba P T;refine(Zn) ?_;rintro rb w3 a9 t S;refine(O 5) ?_;replace P:Bk w2 W 40 a.cells:=P;have L:=(ao.ext T).ext S;have a7:=P.ext S;have G:=(af.trans T).trans S;have l1:=ao.lt;have l2:=P.lt;have z1:=af.size;have z2:=T.size;have ai:=a4.ext G;refine(O 8)<|Zi (fun c0=>?_) fun c0=>?_
 .refine(O 2∘Zv (BW L)∘O 5∘Zc (oK l X ⟨a.path,a.content⟩ A c _ w3 (hG.ext G) (by show Ajb a.path<=_;omega) (fun y hy=>by have:=aj y hy;omega) ai)) ?_;rintro _ w4⟨u4,rfl,g,f⟩;refine(Zs (t.ext f) (hlt:=Bv _)) ?_;rintro w5 m d;refine(O 1∘Kw m) ?_;have e:FU l a=CW l ⟨a.path,a.content⟩:=Ai c0;rw[e]
  exact⟨⟨u4,Z,Bo.base (Bo.mo g d fun k n=>by
   obtain⟨_,l',o⟩:=g.blkT k n;simpa using o.ne (t.ext f) Bc) fun k n=>BE _⟩,Bu (G.trans f) d (G.trans f).size (fun k n=>by simp at n;omega)⟩
 .refine(O 5)<|Zi (fun c1=>?_) fun c1=>?_
  .refine(O 2∘Zv (BW L)∘O 2∘Zc (Afp l X a.path A c _ w3 ai)) ?_;rintro _ w4⟨u4,rfl,g,f⟩;refine(Zs (t.ext f) (hlt:=Bv _)) ?_;rintro w5 m d;refine(O 1∘Kw m) ?_;have e:FU l a=ET l a.path:=(Ag c0).trans (Ai c1);rw[e]
   exact⟨⟨u4,Z,Bo.base (Bo.mo g d fun k n=>by
    obtain⟨_,l',o⟩:=g.blkT k n;simpa using o.ne (t.ext f) Bc) fun k n=>BE _⟩,Bu (G.trans f) d (G.trans f).size (fun k n=>by simp at n;omega)⟩
  .refine(O 5)<|Zi (fun c5=>?_) fun c5=>?_
   .have K:∀i,i<=Ajb a.files->Ajb ((a.files.take i).foldl CW l)<=1000+i/\∀y∈(a.files.take i).foldl CW l,Ajb y.path<=2000:=fun i=>by
     induction i with
     |zero=>exact fun _=>⟨hl,aj⟩
     |succ i ih=>
      intro h;obtain⟨i1,i2⟩:=ih X;rw[(CS (show i<Ajb a.files by omega)).symm,Qa];have hw:=bK ((a.files.take i).foldl CW l) a.files[i];refine⟨by show Ajb (CW _ _)<=_;have:=hw.1;omega,fun y hy=>?_⟩;rcases hw.2 y hy with q|q
      .exact i2 y q
      .rw[q];exact a0 _ (BM _)
    have e5:FU l a=a.files.foldl CW l:=(Ag c0).trans ((Ag c1).trans (Ai c5));have a2:W≠Q:=X;have a1:rb≠Q:=by have:=t.lt;omega
    refine(O 5)<|Lo (fun((i,u1,wr):Y×Ah×Ad)=>(i<=Ajb a.files/\Bk wr Q 33 [u1]/\Bk wr W 40 a.cells/\Bk wr rb 33 [.slice Aa 0 0]/\Bo wr 0 64 2 u1 (Ajb ((a.files.take i).foldl CW l)) (CO ((a.files.take i).foldl CW l))/\Bf w wr,[(2,.pointer (J ⟨Q,0,Aa⟩)),(3,.pointer (J ⟨W,0,Aa⟩)),(4,.pointer (J ⟨rb,0,Aa⟩)),(5,U i)],wr,Ajb a.files-i)) (0,(.slice A (Ajb l) c),w3) ?_ ?_
    .exact⟨BE _,L,a7,t,ho.ext G,G⟩
    .rintro⟨i,u1,wr⟩⟨hi,hm,ha,hr,p,hx⟩;refine(O 9)<|Zi (fun j=>?_) fun j=>?_
     .obtain⟨i1,i2⟩:=K i hi;have bc:=K (i+1) j;have B:(a.files.take (i+1)).foldl CW l=CW ((a.files.take i).foldl CW l) a.files[i]:=by rw[(CS j).symm,Qa];rfl
      have a3:=a0 _ (BM j);obtain⟨b5,o5,e4,_,al⟩:=a5.Ahe (l:=a.files) (i:=i) (c:=2) (fun _=>rfl) Bc j;generalize a.files[i]=x at B al a3;generalize(a.files.take i).foldl CW l=ll at p B i1 i2;obtain⟨A5,a8,rfl,_,a6⟩:=p.slice;have s0:GoS w wr.drew W rb Q a:=⟨hx.trans (Bf.drew wr),ha.ext (Bf.drew wr),hr.ext (Bf.drew wr),_,hm.ext (Bf.drew wr)⟩;have V:=hm.ext (Bf.drew wr);refine KW.skip (Eo (KW.block ?_));refine PY (N:=8) (fun w'=>GoS w w' W rb Q a) Be Z ?_;have D:=(s0:GoS w wr.drew W rb Q a);refine GW.val 1 Z Be Be Be Z Z D (fun w' E=>Do (off:=4) underlying40 Z Z ti31 Z Z) ?_;refine GW.val 2 Z Be Be Be Z Z D (fun w' E=>Ci underlying31 Z Z (act_f E.act e4)) ?_;refine GW.val 3 Z Be Be Be Z Z D (fun w' E=>EX.move Z) ?_;refine GW.val 4 Z Be Be Be Z Z D (fun w' E=>MS underlying31 Hn Z Z X) ?_;refine GW.val 5 Z Be Be Be Z Z D (fun w' E=>KY (l:=x.cells) underlying64 Z Hn Z Z (al w' E.x)) ?_;refine GW.new 0 Z Be Z Z (Jp underlying33 Z ti33 Z (V) Z) ⟨D,fun D=>?_⟩;refine GW.call 6 Z Be Z Z Z (oK ll X x A5 a8 _ wr.drew (hG.ext D.x) X (fun y hy=>by have:=i2 y hy;omega) (a6.ext (Bf.drew wr))) ?_;rintro _ w4⟨u4,rfl,g,f⟩;refine⟨D.ext f,fun D=>?_⟩;have I:Bo w4 0 64 2 u4 (Ajb (CW ll x)) (CO (CW ll x)):=Bo.base g fun k n=>BE _;refine(Ys 7 (V.ext f) (hlt:=Bv _)) ?_;rintro w5 m d;refine⟨D.put d m a2 a1 X,fun D=>?_⟩;refine(Yd∘O 6)<|Lb ((i+1),u4,w5) ?_;dsimp only;rw[B]
      exact⟨j,m,D.act,D.r,Bo.mo I d fun k n=>by
       obtain⟨_,l',o⟩:=I.blkT k n;simpa using o.ne (V.ext f) Bc,D.x⟩
     .obtain rfl:i=Ajb a.files:=X;rw[Dq (Bv _),<-e5]at p;refine(O 4∘Zv (BW hm)∘Zs hr (hlt:=Bv _)) ?_;rintro w5 m d;refine(O 1∘Kw m) ?_
      exact⟨⟨u1,Z,Bo.mo p d fun k n=>by
       obtain⟨_,l',o⟩:=p.blkT k n;simpa using o.ne hr Bc⟩,Bu hx d hx.size (fun k n=>by simp at n;omega)⟩
   .have e5:FU l a=l:=(Ag c0).trans ((Ag c1).trans (Ag c5));refine(O 4∘Zv (BW L)∘Zs t (hlt:=Bv _)) ?_;rintro w5 m d;refine(O 1∘Kw m) ?_;rw[e5]
    exact⟨⟨_,Z,Bo.mo (ho.ext G) d fun k n=>by
     obtain⟨_,l',o⟩:=(ho.ext G).blkT k n;simpa using o.ne t Bc⟩,Bu G d G.size (fun k n=>by simp at n;omega)⟩
end
end
section
open Pth Rec Srt Cat Dsk Wal
def xp{n:Y}(h:1<=n/\n<=4096):Dsk.may (n:H) []:=by refine⟨X,X,by rfl,?_⟩;simp
def newN(n:Y)(h:1<=n/\n<=4096)(w:Ad):Bn prog 29 [U (n:H)] w fun v w'=>Bf w w'/\∃b,v=.tuple #[.pointer (J ⟨b,0,Aa⟩),U 0]/\Cm w' w.heap.size b (fresh n []):=
 (new_s (n:H) X X w).mono fun v w'⟨p,e,h1,h2,h3⟩=>⟨h2,by
  rcases h3 with⟨q,_⟩|⟨_,b,h4,h5,h6⟩
  .exact AI (xp h) q
  .grind⟩
end
section
open Pth Rec Srt Dsk Wal Cat Tar
section
open Bz
def Afj(t:BN)(h:t≠[]):Ajb (Bz.used t)<=Ajb t:=
 ZD _ _ ((Bz.used_may h).2.imp fun {a b} q e=>by rw[e]at q;exact Nat.lt_irrefl _ q) fun x hx=>(Bz.mem_used t x).1 hx
def gO{α:Type}{f:α->Ae Ar}{c:Y}:∀(l:Ae α),(∀x∈l,Ajb (f x)<=c)->Ajb (l.flatMap f)<=c*Ajb l
 |[],_=>Bv _
 |x::l,h=>by
  have:=gO l fun y hy=>h y (FO _ hy);have:=h x (HI ..);rw[FZ,BA,Cz,Nat.mul_add_one];omega
def zt(p:Bz.Pl){n:Y}(a:p.Ok n)(o:n<=4)(hk:Ajb p.picks<=1):Ajb (Bz.planBits p)<=1100:=by
 have i:=VE (m:=Ajb p.tabs) p.picks (BF (Ajb p.tabs)) Hp (fun x d=>DU.2 d) a.lt;have j:=a.tabs;have r:=Oz j.2 hk
 have q:=gO (f:=Bz.dShow) (c:=169) p.tabs fun t h=>by
  have e:=a.len t h;have v:=a.low;have:=UB (fun x d=>((a.ok t h).pos x d).2) (fun l=>by rw[l]at e;simp at e;omega);omega
 unfold Bz.planBits;simp only[BA,Bz.nb_length];omega
def yB{s:BN}(h:Ajb s=1):Ajb (Bz.packS s (Da s))<=512:=by
 have d:s≠[]:=fun e=>by rw[e]at h;cases h
 have a:=Bz.enc_ne d;have m:=Bz.enc_len (Ajb s) s (Bv _);obtain⟨o,n,j,_⟩:=Bz.listOf_len (Bz.enc s) a;obtain⟨i,f⟩:=ad s X d;have l:=QZ _ i (Bz.listOf (Bz.enc s)) (Oy f.symm) j (Ajb (Bz.listOf (Bz.enc s))) (Bv _);rw[DV]at l;have q:=aU (Bz.used (Bz.enc s));have t:=Afj (Bz.enc s) a;have r:=zt _ i X (by rw[f];unfold Bz.grpN;omega)
 have p:Ajb (Bz.blocksB s (Da s))<=2000:=by
  unfold Bz.blocksB;rw[Ag d];unfold Bz.blkB;simp only[BA,Bz.nb_length,Cz];omega
 unfold Bz.packS;rw[Bz.pack_length,Bz.streamB_length];omega
end
def kM{p c:AH}(d:(BP [p]).2.2=Af)(f:Cw [p]=0):Cc ⟨[p],[c]⟩=2:=by
 have h:Fits ⟨[p],[c]⟩:=⟨f,by show 1<=8192;decide⟩;have a:=YQ h;rw[Ai d]at a;have j:=yB (s:=[c]) Z;have i:=(ZV (s:=[c]) (by show 1<=8192;decide)).1
 have e:Ajb (Cl ⟨[p],[c]⟩)=1024:=by
  unfold Cl;rw[BA,UM,a];unfold Gn;show 512+(Ajb (Bz.packS [c] (Da [c]))+511)/512*512=1024;omega
 unfold Cc;rw[e];rfl
structure VI(V:Vl)(g nx k:Y)(fs:Ae En):Prop extends VJ V g nx k fs where
 at_:V.D.at_=0
def GD.done{V:Vl}{r:Vl×Y}{k:Y}{fs fs':Ae En}{Q:Y->Y->Prop}(h:GD V r k fs fs' Q)(h0:V.D.at_=0):r.2=0/\∃g nx,VI r.1 g nx k fs'/\Q g nx/\r.1.D.cap=V.D.cap:=by
 obtain⟨i,j,⟨f,g,nx,e,d⟩|⟨_,a,_⟩⟩:=h
 .exact⟨f,g,nx,⟨e,X⟩,d,i⟩
 .exact AI h0 a
def PV(V:Vl)(k:Y):Prop:=(∃g nx fs,VJ V g nx k fs)∨(VOk V k/\(V.broken=Af∨V.D.dead=Af))
def PV.ok{V:Vl}{k:Y}(h:PV V k):VOk V k:=h.elim (fun⟨_,_,_,q⟩=>q.ok) fun q=>q.1
def PV.more{V:Vl}{k k':Y}(h:PV V k)(hk:k<=k'):PV V k':=h.imp (fun⟨g,nx,fs,q⟩=>⟨g,nx,fs,q.more hk⟩) fun q=>⟨q.1.Ahl hk,q.2⟩
def FX.pv{V:Vl}{r:Vl×Y}{k:Y}{fs fs':Ae En}(h:FX V r k fs fs'):PV r.1 k:=by
 obtain⟨_,_,⟨_,g,nx,q⟩|⟨_,_,q⟩⟩:=h
 .exact .inl ⟨g,nx,_,q⟩
 .exact .inr (q.elim (fun q=>⟨q.ok,.inr q.gone.dead⟩) fun q=>⟨q.ok,.inr q.gone.dead⟩)
def PV.move{V:Vl}{k:Y}(h:PV V k)(hk:k<=900000000)(p:BN)(a:H):PV (Gu V p a).1 (k+10000):=by
 rcases h with⟨g,nx,fs,q⟩|⟨f,d⟩
 .exact(q.move hk p a).pv
 .unfold Gu;have e:(CC V p).2=190:=by unfold CC;rw[Ai d]
  rw[Ai (by rw[e];decide)];exact .inr ⟨f.Ahl (Qf _ _),d⟩
section
variable{V:Vl}{g nx k:Y}{fs:Ae En}
def uk{l:Ae Xt}{cap n s:H}(d:1<=n)(a:OkX l cap)(h:IJ l cap n s):Ez l cap n=(s,0):=by
 have q:1<=n/\OkX l cap/\∃s,IJ l cap n s:=⟨d,a,s,h⟩;have e:Ez l cap n=(q.2.2.choose,0):=AQ q;rw[e,gI h q.2.2.choose_spec]
def VI.Ahn(h:VI V g nx k fs)(hk:k<=700000000)(x:En)(hx:Fits x){s:H}(n:1<=Cc x)(j:IJ (BY V.mems) V.D.cap (Cc x) s)(hl:Ajb V.mems<=15):(EH V [x]).2=0/\∃g' nx',VI (EH V [x]).1 g' nx' (k+100000) (CW fs x)/\(EH V [x]).1.mems=Cd M.path (mz ((s,Cc x),x)) V.mems/\(EH V [x]).1.D.cap=V.D.cap:=by
 obtain⟨a,E⟩:=h.arc.ok;have G:=hx.data
 have d:Fy [x]=0:=by
  unfold Fy;rw[Ag (fun q=>q hx.path),Ag X];rfl
 have e:∀m:M,Ajb (Cd M.path m V.mems)<=16:=fun m=>by
  rw[(ju (key:=M.path) m a.rises).length_eq,Cz];have:=RR (fun y:M=>decide (y.path≠m.path)) V.mems;omega
 have v:Dl V.mems ([x].map Eu)=Cd M.path (Eu x).mem V.mems:=by rw[Np a.rises];rfl
 have r:=uk n a.ext j
 have i:Fj V.D.cap (BY V.mems) [] [x]=([(s,Cc x)],0):=by
  unfold Fj;rw[List.append_nil,r,Ag (fun q=>q Z)];rfl
 have t:EH V [x]=Go.Proofs.YtkmlafmjaeeanaaGreatDoor.putF V [x] [(s,Cc x)]:=by
  unfold EH;rw[Ag h.live];unfold Ev;rw[d,Ag (fun q=>q Z)];unfold NG;rw[Ag (fun q=>q (TR.2 ⟨Bi,WK⟩))];unfold LH;rw[v,Ag (by have:=e (Eu x).mem;omega)];unfold NH;rw[i,Ag (fun q=>q Z)]
 have p:Plac V.D.cap V.mems [((s,Cc x),x)]:=⟨j.ok n a.ext,fun z f=>by rw[CF.1 f];exact hx,fun z f=>by rw[CF.1 f]⟩;have o:Dl V.mems (HK DC [x] [(s,Cc x)])=Cd M.path (mz ((s,Cc x),x)) V.mems:=by rw[Np a.rises];rfl
 obtain⟨C,g',nx',B,A,w⟩:=(h.toVJ.putF X (l:=[x]) (ps:=[(s,Cc x)]) Z p nofun (by rw[o];exact e _) (by show 1<=16;decide)).done h.at_;rw[t];exact⟨C,g',nx',B,A.trans o,w⟩
def vC{α:Type}{key:α->BN}{x y:α}(h:key x=key y):Cd key x [y]=[x]:=by
 have e:=(JF key x y).2 h;unfold Cd;rw[Ag X,Ai e]
structure Wake(V0 V1 V2 V3 V4:Vl):Prop where
 one:EH V0 [⟨[98],[50]⟩]=(V1,0)
 two:EH V1 [⟨[97],[49]⟩]=(V2,0)
 del:Lt V2 [98]=(V3,0)
 comp:∀L,L.Perm V3.mems->Lr V3 L=(V4,0)
 ok0:VOk V0 10
 ok1:VOk V1 200000
 ok2:VOk V2 300000
 ok3:PV V3 400000
 may3:∀m∈V3.mems,0<=m.start/\m.start<=5000/\0<=m.sectors/\m.sectors<=5000/\Ajb m.path<=1000000
 ok4:VOk V4 800000
 mem:V4.mems=[⟨[97],30,2,1,Fc [49]⟩]
 stands:Stands V4.D ⟨[97],30,2,1,Fc [49]⟩ ⟨[97],[49]⟩
 live:¬(V4.broken=Af∨V4.D.dead=Af)
 find:CC V4 [97]=(⟨[97],30,2,1,Fc [49]⟩,0)
def wakes{r:Vl}(h0:VI r 0 0 10 [])(p:r.D.cap=60)(o:r.mems=[]):∃V1 V2 V3 V4,Wake r V1 V2 V3 V4:=by
 have ca:Cw [97]=0:=by decide+kernel
 have cb:Cw [98]=0:=by decide+kernel
 have sa:(BP [97]).2.2=Af:=by decide+kernel
 have sb:(BP [98]).2.2=Af:=by decide+kernel
 have W:Cc ⟨[97],[49]⟩=2:=kM sa ca;have nb:Cc ⟨[98],[50]⟩=2:=kM sb cb;have fa:Fits ⟨[97],[49]⟩:=⟨ca,by show 1<=8192;decide⟩;have fb:Fits ⟨[98],[50]⟩:=⟨cb,by show 1<=8192;decide⟩
 have a5:IJ (BY r.mems) r.D.cap (Cc ⟨[98],[50]⟩) 30:=by
  rw[o,p,nb];exact⟨⟨Bc,Bc,fun x hx=>by cases hx⟩,fun s G=>G.1⟩
 obtain⟨S,g1,bb,A,E,I⟩:=h0.Ahn Bc ⟨[98],[50]⟩ fb (by rw[nb];decide) a5 (by rw[o];decide);rw[o,nb]at E;generalize a2:EH r [⟨[98],[50]⟩]=r1 at S A E I;obtain⟨V1,e1⟩:=r1;dsimp only at S A E I;subst S;have n:V1.mems=[mz ((30,2),⟨[98],[50]⟩)]:=E
 have a4:IJ (BY V1.mems) V1.D.cap (Cc ⟨[97],[49]⟩) 32:=by
  rw[n,I,p,W];refine⟨⟨Bc,Bc,fun x hx=>?_⟩,fun s G=>?_⟩
  .rw[CF.1 hx];unfold apart;left;decide
  .have q:=G.2.2 (30,2) (HI ..);have q1:=G.1;unfold apart at q;dsimp only at q;omega
 obtain⟨Q,g2,ba,l,C,c2⟩:=A.Ahn Bc ⟨[97],[49]⟩ fa (by rw[W];decide) a4 (by rw[n];decide);rw[n,W]at C;generalize a1:EH V1 [⟨[97],[49]⟩]=r2 at Q l C c2;obtain⟨V2,e2⟩:=r2;dsimp only at Q l C c2;subst Q
 have j:V2.mems=[mz ((32,2),⟨[97],[49]⟩),mz ((30,2),⟨[98],[50]⟩)]:=by
  rw[C]
  have e:Cg M.path (mz ((32,2),⟨[97],[49]⟩)) (mz ((30,2),⟨[98],[50]⟩))=-1:=by
   show Gc [97] [98]=-1;decide+kernel
  unfold Cd;rw[Ai e]
 have bc:¬(V2.broken=Af∨V2.D.dead=Af):=l.live
 have ab:(CC V2 [98]).2=0:=by
  have:=l.Ahg (i:=1) (by rw[j];decide);have e:V2.mems[1]'(by rw[j];decide)=mz ((30,2),⟨[98],[50]⟩):=by simp only[j];rfl
  rw[e]at this;have this:CC V2 [98]=_:=this;rw[this]
 obtain⟨P,g3,T,h,m3,c3⟩:=(l.toVJ.Ahs Bc [98] ab).done l.at_;generalize a0:Lt V2 [98]=r3 at P h m3 c3;obtain⟨V3,e3⟩:=r3;dsimp only at P h m3 c3;subst P;have a:V3.mems=[mz ((32,2),⟨[97],[49]⟩)]:=by rw[m3,j];rfl
 have aj:(EH V3 []).2=0:=by
  have o1:=h.arc.ok.1;unfold EH;rw[Ag h.live];unfold Ev;rw[Ag (fun q=>q Z)];unfold NG;rw[Ag (fun q=>q WK)];unfold LH;rw[Np o1.rises,Ag (by show ¬16<Ajb V3.mems;rw[a];decide)];unfold NH;rw[Fj,Ag (fun q=>q Z)];unfold putF;rw[Ai Z]
 have d:=h.Ahg (i:=0) (by rw[a];decide);have a7:V3.mems[0]'(by rw[a];decide)=mz ((32,2),⟨[97],[49]⟩):=by simp only[a];rfl
 rw[a7]at d;have d:CC V3 [97]=(mz ((32,2),⟨[97],[49]⟩),0):=d
 obtain⟨N,g4,a9,w,B,c4⟩:=(h.toVJ.Ahq Bc [97] 30 (by rw[d]) (by
  rw[d,a,c3,c2,I,p];decide)).done h.at_
 rw[d,a]at B;generalize ao:Gu V3 [97] 30=r4 at N w B c4;obtain⟨V4,e4⟩:=r4;dsimp only at N w B c4;subst N
 have af:V4.mems=[⟨[97],30,2,1,Fc [49]⟩]:=by
  have q:=vC (key:=M.path) (x:=({ mz ((32,2),⟨[97],[49]⟩)with start:=30 }:M)) (y:=mz ((32,2),⟨[97],[49]⟩)) Z
  have hz:({ mz ((32,2),⟨[97],[49]⟩)with start:=30 }:M)=⟨[97],30,2,1,Fc [49]⟩:=by
   unfold mz;dsimp only;rw[M.mk.injEq];refine⟨Z,Z,Z,?_,?_⟩
   .decide
   .exact Z
  refine B.trans (Eq.trans q ?_);rw[hz]
 obtain⟨K,g5,a8,t,m5,c5⟩:=w.toVJ.trim.done w.at_;generalize al:MO V4=r5 at t c5 K m5;obtain⟨V5,e5⟩:=r5;dsimp only at t c5 K m5;subst K;have f:V5.mems=[⟨[97],30,2,1,Fc [49]⟩]:=m5.trans af;have v:=t.Ahg (i:=0) (by rw[f];decide);have a6:V5.mems[0]'(by rw[f];decide)=⟨[97],30,2,1,Fc [49]⟩:=by simp only[f];rfl
 rw[a6]at v
 have ai:Stands V5.D ⟨[97],30,2,1,Fc [49]⟩ ⟨[97],[49]⟩:=by
  have ef:ET (CW (CW [] ⟨[98],[50]⟩) ⟨[97],[49]⟩) [98]=[⟨[97],[49]⟩]:=by decide+kernel
  have hf:=t.files;rw[ef,f]at hf;exact(hf.at_ (i:=0) Bc Bc).2
 refine⟨V1,V2,V3,V5,a2,a1,a0,fun L hL=>?_,h0.ok,(A.more Bc).ok,(l.more Bc).ok,.inl ⟨g3,T,_,h.more Bc⟩,fun m hm=>by have:=NE h.arc.ok.1 hm;have:=JO (h.arc.ok.1.may m hm);omega,(t.more Bc).ok,f,ai,t.live,v⟩;rw[a]at hL;have a3:=List.perm_singleton.1 hL;subst a3;unfold Lr;rw[Ag (fun q=>q aj)];have ea:Im V3 30 (mz ((32,2),⟨[97],[49]⟩))=(V3,0):=Ag Bc
 have eh:OT (Im V3 30 (mz ((32,2),⟨[97],[49]⟩))) 30 (mz ((32,2),⟨[97],[49]⟩))=(V4,0):=by
  rw[ea,YU,Ai Bc];exact ao
 unfold Lq;rw[eh,Ag (fun q=>q Z)];exact al
end
end
section
attribute [local irreducible] OW KW QW EX GW NV
open Pth Rec Srt Dsk Wal Cat Tar
section
variable{w w':Ad}{B vb db:Y}{V:Vl}{g nx k:Y}{fs:Ae En}
def tD(h:VAt w B vb db V)(hv:VJ V g nx k fs)(hk:k<=500000000)(K:Env w)(l:0<B)(af:B<=w.heap.size)(a:Ta)(ha:a.Ok)(ai:Ajb a.path<=2000)(al:Ajb a.content<=140737488355328)(aj:Ajb a.files<=20)(P:∀x∈a.files,Ajb x.path<=2000/\Ajb x.data<=140737488355328)(C:Y)(hs:Sl w C a.fA (CO a.files)):
 Bn prog 10 [.pointer (J ⟨vb,0,Aa⟩),.agg a.cells.toArray] w fun v w'=>∃V' e,v=U ((e:Y):H)/\VAt w' B vb db V'/\FX V (V',e) (k+400000) fs (FU fs a)/\Tm w w' B vty:=by
 obtain⟨N,o2⟩:=hv.arc.ok;have G:=N.len;have o:=ha.tow;have E:Dy w:=K.mlen;refine Bw func10 Z ntmps10 Be Z ?_;refine(O 2) ?_;refine Dz Z Z Z ?_;rintro ab S W I d;refine(O 6) ?_;replace I:Bk S ab 40 a.cells:=I;have y:=h.ext d;have t:Tm w S B vty:=Tm.Agk d _ _;refine(O 8)<|Zi (fun r=>?_) fun r=>?_
 .have j:=hv.put X [⟨a.path,a.content⟩];have f:FU fs a=[⟨a.path,a.content⟩].foldl CW fs:=Ai r;refine(O 7∘Zc (Xc y hv.ok X (K.ext d) l ⟨a.path,a.content⟩ ⟨by show Ajb a.path<=_;omega,by show Ajb a.content<=_;omega⟩)) ?_;rintro _ D⟨rfl,n,i⟩;refine(O 2∘Br) ?_;exact⟨_,_,Z,n,by rw[f];exact j.more X,t.trans i⟩
 .refine(O 5)<|Zi (fun A=>?_) fun A=>?_
  .have j:=hv.delete X a.path;have f:FU fs a=ET fs a.path:=(Ag r).trans (Ai A);refine(O 5∘Zc (fU y hv.ok X (E.ext d) l a.path X)) ?_;rintro _ D⟨rfl,n,i⟩;refine(O 2∘Br) ?_;exact⟨_,_,Z,n,by rw[f];exact j.more X,t.trans i⟩
  .refine(O 5)<|Zi (fun c2=>?_) fun c2=>?_
   .have j:=hv.move X a.path a.tow;have f:FU fs a=fs:=(Ag r).trans ((Ag A).trans (Ag X));refine(O 7∘Zc (Zz y hv.ok X (E.ext d) l a.path X a.tow o.1 o.2)) ?_;rintro _ D⟨rfl,n,i⟩;refine(O 2∘Br) ?_;exact⟨_,_,Z,n,by rw[f];exact j.more X,t.trans i⟩
   .refine(O 5)<|Zi (fun c3=>?_) fun c3=>?_
    .have f:FU fs a=fs:=(Ag r).trans ((Ag A).trans (Ag X));refine(O 3∘Zc (ft PV (fun V k q=>q.ok) (fun V k p tt hk q=>q.move X p tt) (fun V k k' q h=>q.more h) y (.inl ⟨g,nx,fs,hv⟩) X (K.ext d) l (fun m T=>by have:=NE N T;have:=JO (N.may m T);omega))) ?_;rintro _ D⟨L,hO,rfl,n,i⟩;refine(O 2) ?_;have j:=hv.Aiz (L:=L) X (by rw[hO.perm.length_eq];exact G);refine(Br) ?_;exact⟨_,_,Z,n,by rw[f];exact j.more X,t.trans i⟩
    .refine(O 5)<|Zi (fun c4=>?_) fun c4=>?_
     .have j:=hv.trim.call;have f:FU fs a=fs:=(Ag r).trans ((Ag A).trans (Ag X));refine(O 3∘Zc (ot y hv.ok X)) ?_;rintro _ D⟨rfl,n,i⟩;refine(O 2∘Br) ?_;exact⟨_,_,Z,n,by rw[f];exact j.more X,t.trans i⟩
     .refine(O 5)<|Zi (fun Q=>?_) fun Q=>?_
      .have j:=hv.put X a.files;have f:FU fs a=a.files.foldl CW fs:=(Ag r).trans ((Ag A).trans (Ai Q));refine(O 5∘Zc (ag y hv.ok X (K.ext d) l a.files X a.fA a.fc C (hs.ext d) (fun x hx=>by have:=P x hx;omega))) ?_;rintro _ D⟨rfl,n,i⟩;refine(O 2∘Br) ?_;exact⟨_,_,Z,n,by rw[f];exact j.more X,t.trans i⟩
      .have f:FU fs a=fs:=(Ag r).trans ((Ag A).trans (Ag Q));refine(O 6∘Br) ?_;exact⟨V,0,Z,y,by rw[f];exact hv.same X,t⟩
def lh(n:Y)(p:31<=n/\n<=4096)(w:Ad)(r:Dy w)(f:0<w.heap.size):Bn prog 8 [U (n:H)] w fun v w'=>∃db vb V,v=.tuple #[.pointer (J ⟨db,0,Aa⟩),.pointer (J ⟨vb,0,Aa⟩)]/\VAt w' w.heap.size vb db V/\VI V 0 0 10 []/\V.D.cap=n/\V.mems=[]/\Bf w w':=by
 obtain⟨o,m,l,j,i⟩:=xU p;have e:(fresh n []).Ok:=gX X Bi Bi;have d:Sm (fresh n []) 0:=⟨by simp[fresh],by simp[fresh],by simp[fresh],by simp[fresh]⟩;refine Bw func8 Z ntmps8 Be Z ?_;refine(O 8∘Zc (newN n X w)) ?_;rintro _ C⟨a,db,rfl,x⟩;refine(O 9) ?_;have y:=(lf x e d Bc (r.ext a) f (by show 30<n;omega) Z o).mono fun v w' (q:_/\_)=>(⟨q.1.resolve_right fun z=>z.1 m,q.2⟩:(_/\_)/\_);refine(Zc y) ?_;rintro _ A⟨⟨_,vb,rfl,t⟩,h⟩;refine(O 29∘BG) ?_;exact⟨db,vb,_,Z,t,⟨l,i⟩,j,Z,Tm.below a h a.size (Bv _)⟩
end
section
variable{w w':Ad}
def Aei(w:Ad)(m:Env w)(d:0<w.heap.size):Bn prog 7 [] w fun v w'=>v=.bool Af/\Bf w w':=by
 refine Bw func7 Z ntmps7 Be Z ?_;refine(O 6∘Zc (lh 60 Bc w m.mlen d)) ?_;rintro _ T⟨db,vb,V0,rfl,h0,v0,c0,m0,f⟩;refine(O 8) ?_;obtain⟨V1,V2,V3,V4,W⟩:=wakes v0 c0 m0;have z1:=f.size;have a:∀w',Tm T w' w.heap.size vty->Bf w w':=fun w' t=>Tm.below f t f.size (Bv _);refine(O 5) ?_;have Q:=Xc h0 W.ok0 Bc (m.ext f) d ⟨[98],[50]⟩ ⟨by show 1<=1000000;decide,by show 1<=140737488355328;decide⟩;rw[W.one]at Q;refine(Zc Q) ?_;rintro _ w2⟨rfl,h1,K⟩;refine(O 4) ?_;have P:=Xc h1 W.ok1 Bc (m.ext (a _ K)) d ⟨[97],[49]⟩ ⟨by show 1<=1000000;decide,by show 1<=140737488355328;decide⟩;rw[W.two]at P;refine(Zc P) ?_;rintro _ w3⟨rfl,h2,t2⟩;refine(O 3) ?_;have x:=K.trans t2;refine(O 1) ?_;have N:=fU h2 W.ok2 Bc (m.ext (a _ x)).mlen d [98] Bc;rw[W.del]at N;refine(Zc N) ?_;rintro _ S⟨rfl,h3,t3⟩;refine(O 3) ?_;have n:=x.trans t3;refine(O 1) ?_;have E:=ft PV (fun V k q=>q.ok) (fun V k p tt hk q=>q.move X p tt) (fun V k k' q h=>q.more h) h3 W.ok3 Bc (m.ext (a _ n)) d W.may3;replace E:=E.mono fun v w'⟨L,hO,q⟩=>(by rw[W.comp L hO.perm]at q;exact q:v=Value.int .i64 ((0:Y):H)/\VAt w' w.heap.size vb db V4/\Tm S w' w.heap.size vty);refine(Zc E) ?_;rintro _ w5⟨rfl,h4,t4⟩;refine(O 3) ?_;have g:=n.trans t4;refine(O 5∘Zc (gw h4 W.ok4 Bc (m.ext (a _ g)) (fun w' t=>m.ext (a _ (g.trans t))) [97] [49] _ W.find W.stands W.live)) ?_;rintro _ I⟨rfl,h5,t5⟩;refine(O 7) ?_;have B:=g.trans t5;refine(O 2∘Zv (by exact HC (r:=[49]) Z Z)∘O 6) ?_;have C:=UZ h5 (by show Ajb V4.mems<=_;rw[W.mem];decide)
 replace C:=C.mono fun v w' q=>(by
  have e:({ V4 with D:=Dh V4.D (2:H).toNat }:Vl).mems=[⟨[97],30,2,1,Fc [49]⟩]:=W.mem;rw[e]at q;exact q:Bo w' I.heap.size 60 5 v 1 (DK [⟨[97],30,2,1,Fc [49]⟩])/\Bf I w')
 refine(Zc C) ?_;rintro v7 w7⟨y,G⟩;obtain⟨A7,c7,rfl,_,A⟩:=y.slice;obtain⟨b,o,rfl,_,j⟩:=A.flat (l:=[(⟨[97],30,2,1,Fc [49]⟩:M)]) (i:=0) (c:=5) (fun _=>rfl) Bc Bc;refine(O 2∘Zv (Ca (j 1 _ Z))∘O 4∘Br) ?_;exact⟨by rw[AL Z],(a _ B).trans G⟩
end
end
section
open Pth Rec Srt Dsk Wal Cat Tar
def Fil.fits{D:Dv}{ms:Ae M}{fs:Ae En}(h:Fil D ms fs):∀x∈fs,Fits x:=by
 induction h with
 |nil=>exact fun x a=>by cases a
 |cons _ h2 _ ih=>
  intro x a;rcases List.mem_cons.1 a with q|q
  .rw[q];exact h2.fits
  .exact ih x q
def uc{D:Dv}{c:H}{ms:Ae M}{fs:Ae En}(h:Fil D ms fs)(o:OkC ms c):Ajb fs<=16/\∀y∈fs,Ajb y.path<=2000:=by
 have e:=o.len;have d:=h.len;exact⟨X,fun y a=>by have:=Xy (h.fits y a).path;omega⟩
def VJ.small{V:Vl}{g nx k:Y}{fs:Ae En}(h:VJ V g nx k fs):Ajb fs<=16/\∀y∈fs,Ajb y.path<=2000:=uc h.files h.arc.ok.1
def VAt.tmx{w w':Ad}{B a db C:Y}{V:Vl}{p:Ay->Ar}(h:VAt w B a db V)(t:Tm w w' C p)(p1:p 85=Aj)(m:p 5=Aj)(l:p 137=Aj)(j:p 4=Aj)(i:p 3=Aj)(f:p 9=Aj)(e:p 82=Aj)(d:p 60=Aj):VAt w' B a db V:=by
 obtain⟨v,⟨u,r,q⟩,o⟩:=h;exact⟨v.tm t p1 m l j i f,⟨u,t.bk r e,t.own q d⟩,o⟩
def Stt(w:Ad)(B db n k:Y)(fs:Ae En)(p:Ah)(x:Y):Prop:=
 (x=0/\∃vb j8 g nx,p=.pointer (J ⟨vb,0,Aa⟩)/\VAt w B vb db j8/\VJ j8 g nx k fs/\j8.D.cap=n)∨(x=190/\p=.pointer Aa/\∃D,Cm w B db D/\FellD D k fs/\D.cap=n)
section
variable{w:Ad}{B db n k g nx:Y}{D:Dv}{ms:Ae M}{fs:Ae En}
def kZ(h:Cm w B db D)(hC:Can D g ms)(hA:D.at_=0∨∃nx,Arc D g nx ms)(hf:Fil D ms fs)(hs:Sm D k)(hgk:g+1<=k+40)(hk:k<=700000000)(hG:Dy w)(hgl:0<B):
 Bn prog 15 [.pointer (J ⟨db,0,Aa⟩)] w fun v w'=>(∃p,∃x:Y,v=.tuple #[p,U (x:H)]/\Stt w' B db D.cap (k+40) fs p x/\(D.at_=0->x=0))/\Tm w w' B Cj:=
 (lf h hC.rest.ok hs X hG hgl hC.cap hC.rest.dead (hC.found X)).mono fun v w'⟨q,t⟩=>by
  refine⟨?_,t⟩;obtain⟨c1,c2,c3⟩:=hC.opened hA hf hs hgk X;rcases q with⟨q1,vb,rfl,q2⟩|⟨q1,rfl,q2⟩
  .rcases c3 with⟨_,c3⟩|⟨c3,_⟩
   .exact⟨_,0,Z,.inl ⟨Z,vb,_,_,_,Z,q2,c3,c1⟩,fun _=>rfl⟩
   .omega
  .rcases c3 with⟨c3,_⟩|⟨c3,c5,c4⟩
   .exact AI c3 q1
   .exact⟨.pointer Aa,_,Z,.inr ⟨c3,Z,_,q2,c4,c1⟩,fun z=>absurd z c5⟩
def FellD.ok(h:FellD D k fs):D.Ok/\30<D.cap/\D.dead=Af:=by
 obtain⟨g,ms,_,a,_⟩:=h.can;exact⟨h.gone.ok,a.cap,h.gone.dead⟩
def Aad(a:FellD D k fs)(h:Cm w B db (Ef D))(hk:k<=700000000)(l:Dy w)(d:0<B):
 Bn prog 15 [.pointer (J ⟨db,0,Aa⟩)] w fun v w'=>(∃p,v=.tuple #[p,U ((0:Y):H)]/\Stt w' B db D.cap (k+40) fs p 0)/\Tm w w' B Cj:=by
 obtain⟨g,ms,o,m,j⟩:=a.can;have s:=a.sm
 exact(kZ h m (.inl a.gone.at_) j ⟨s.calls,s.pend,s.at_,s.keep⟩ X hk l d).mono fun v w'⟨⟨p,x,e,i,f⟩,t⟩=>⟨⟨p,by
  rw[f a.gone.at_]at e;exact e,by
  rw[f a.gone.at_]at i;exact i⟩,t⟩
def zq{V:Vl}(h:VJ V g nx k fs)(a:H)(f:a<=9223372036854775807)(ks:Ae Ar)(e:Ajb ks<=140737488351232):VJ { V with D:=(V.D.Agp a ks).1 } g nx k fs/\(V.D.Agp a ks).1.cap=V.D.cap:=by
 have d:=h.arc.rest;unfold Dv.Agp;rw[d.dead,Ag Bi];split
 .exact⟨h,Z⟩
 .have s:=h.sm;exact⟨⟨⟨⟨⟨d.ok.cap,d.ok.kept,d.ok.now,d.ok.keptM,d.ok.nowM,d.ok.pend⟩,Z,d.pend,d.kept⟩,h.arc.cap,h.arc.made,h.arc.oth⟩,h.files.same Z,h.gen,h.next,h.good,⟨s.calls,s.pend,by show a.toNat<=_;omega,BC e Bc⟩,h.gk⟩,Z⟩
end
def uQ{V:Vl}{r:Vl×Y}{k:Y}{fs fs':Ae En}(h:FX V r k fs fs'):r.1.D.dead=decide (r.2=190):=by
 obtain⟨_,_,⟨q,g,nx,h⟩|⟨q,_,h⟩⟩:=h
 .rw[AN q];exact h.arc.rest.dead
 .rw[AL q];exact h.elim (fun h=>h.gone.dead) fun h=>h.gone.dead
def FellD.more{D:Dv}{k k':Y}{fs:Ae En}(h:FellD D k fs)(hk:k<=k'):FellD D k' fs:=by
 obtain⟨g,ms,d,a⟩:=h.can;exact⟨h.gone,h.sm.more hk,g,ms,BC d hk,a⟩
def un{w:Ad}{B f db k e:Y}{j V:Vl}{fs fs':Ae En}(hv:VAt w B f db V)(m:FX j (V,e) k fs fs')(he:e=0∨e=190)(hk:k<=600000000)(o:Dy w)(d:0<B):
 ∃fsN,(fsN=(if e=0 then fs' else fs)∨fsN=(if e=0∨e=190 then fs' else fs))/\Bn prog 15 [.pointer (J ⟨db,0,Aa⟩)] w fun v w'=>(∃p,∃x:Y,v=.tuple #[p,U (x:H)]/\Stt w' B db V.D.cap (k+40) fsN p x)/\Tm w w' B Cj:=by
 rw[Ai he];obtain⟨_,_,⟨q,g,nx,h⟩|⟨q,_,h⟩⟩:=m
 .have h:VJ V g nx k (if e=0 then fs' else fs):=h;have l:=h.gk;exact⟨_,.inl Z,(kZ hv.dev h.arc.can (.inr ⟨nx,h.arc⟩) h.files h.sm X X o d).mono fun v w'⟨⟨p,x,e,i,_⟩,t⟩=>⟨⟨p,x,e,i⟩,t⟩⟩
 .have q:e=190:=q
  have a:∀fsN,Fell V k fsN->Bn prog 15 [.pointer (J ⟨db,0,Aa⟩)] w fun v w'=>(∃p,∃x:Y,v=.tuple #[p,U (x:H)]/\Stt w' B db V.D.cap (k+40) fsN p x)/\Tm w w' B Cj:=fun fsN h=>by
   obtain⟨E,C,A⟩:=h.dev.ok
   exact(yC hv.dev E C A).mono fun v w'⟨y,r⟩=>by
    subst r;exact⟨⟨.pointer Aa,190,y,.inr ⟨Z,Z,V.D,hv.dev,h.dev.more X,Z⟩⟩,Tm.refl _ _ _⟩
  rcases h with h|h
  .exact⟨fs,.inl (by rw[Ag X]),a fs h⟩
  .exact⟨fs',.inr Z,a fs' h⟩
def oM:∀(xs l:Ae En),Ajb (xs.foldl CW l)<=Ajb l+Ajb xs
 |[],l=>Bv _
 |x::xs,l=>by
  have h1:=oM xs (CW l x);have h2:=(bK l x).1;rw[Kh,Cz];omega
def je{l:Ae En}{a:Ta}(h1:Ajb l<=16)(d:Ajb a.files<=20):Ajb (FU l a)<=1000000:=by
 unfold FU;split
 .have:=(bK l ⟨a.path,a.content⟩).1;omega
 .split
  .have:=RR (fun x:En=>decide (x.path≠a.path)) l;unfold ET;omega
  .split
   .have:=oM a.files l;omega
   .omega
end
section
attribute [local irreducible] OW KW QW EX GW NV
open Pth Rec Srt Dsk Wal Cat Tar
def Aer(cap:H)(c0:-9223372036854775808<=cap)(c1:cap<=9223372036854775807)(f:Ae Ta)(e1:∀a∈f,a.Ok)(A:Aw AC)(c C:Y)(w:Ad)(hG:Env w)(bj:0<w.heap.size)(hs:Sl w C A (bg f))(hl:Ajb f<=140737488355328)
 (d9:∀a∈f,∃C',Sl w C' a.fA (CO a.files)/\Ajb a.files<=140737488355328) (e8:∀a∈f,∃C',Sl w C' a.kA (HP a.ks)) (hsz:∀a∈f,Ajb a.path<=140737488355328/\Ajb a.content<=140737488355328/\∀x∈a.files,Ajb x.path<=140737488355328/\Ajb x.data<=140737488355328):
 Bn prog 4 [U cap,.slice A (Ajb f) c] w fun v w'=>v=.bool Af/\Bf w w':=by
 have el:∀w',Bf w w'->Bn prog 7 [] w' fun v em=>v=.bool Af/\Bf w em:=fun w' hx=>(Aei w' (hG.ext hx) (Ks bj hx.size)).mono fun _ _ h=>⟨h.1,Bf.trans hx h.2⟩;have cf:=few_s f 30000 Bc A c C w hs hl d9 hsz;refine Bw func4 Z ntmps4 Be Z ?_;refine(O 8∘Zc cf) ?_;rintro _ _⟨⟨b,rfl,hb⟩,rfl⟩;refine(O 2) ?_;rcases b with _|_
 .refine(O 3∘Zc (el w (Bf.refl _))) ?_;rintro _ w1⟨rfl,a8⟩;refine(O 2∘Br) ?_;exact⟨Z,a8⟩
 .obtain⟨gc,fu⟩:=hb Z;refine(O 5∘Zc (Aew cap c0 c1 w)) ?_;rintro _ _⟨⟨n,rfl,f9,f8⟩,rfl⟩;refine(Zc (lh n X w hG.mlen bj)) ?_;rintro _ w1⟨V,vb,V0,rfl,h0,v0,e0,m0,a8⟩;refine(O 17∘Zn) ?_;rintro T w2 f5 bs b3;refine(Zs bs (hlt:=Bv _)) ?_;rintro w3 fr d7;refine(O 7) ?_;have z1:=a8.size;have x3:Bf w w3:=Bu (a8.trans b3) d7 (a8.trans b3).size (fun k hk=>by simp at hk;omega);have x13:Bf w1 w3:=Bu b3 d7 b3.size (fun k hk=>by simp at hk;omega);refine Lo (fun((i,vb,j8,K,u,wr):Y×Y×Vl×(Ae En)×Ah×Ad)=>(i<=Ajb f/\VAt wr w.heap.size vb V j8/\(∃g nx,VJ j8 g nx (10+800000*i) K)/\j8.D.cap=n/\Bk wr T 33 [u]/\Bo wr 0 64 2 u (Ajb K) (CO K)/\Bf w wr,[(1,.slice A (Ajb f) c),(5,.pointer (J ⟨V,0,Aa⟩)),(6,.pointer (J ⟨vb,0,Aa⟩)),(7,.pointer (J ⟨T,0,Aa⟩)),(8,U i)],wr,Ajb f-i)) (0,vb,V0,([]),(.slice Aa 0 0),w3) ?_ ?_
  .exact⟨BE _,h0.ext x13,⟨_,_,v0.toVJ⟩,e0,fr,Bo.nil _ _ _ _,x3⟩
  .rintro⟨i,vb,j8,K,u,wr⟩⟨hi,hv,⟨g,nx,a9⟩,b9,hm,dv,hx⟩;have fb:i<=150:=X;refine(O 8)<|Zi (fun r=>?_) fun r=>?_
   .obtain⟨b,o,rfl,_,ec⟩:=hs.Ahe (cells:=Ta.cells) (l:=f) (i:=i) (c:=7) (fun _=>rfl) Bc r;have bm:=ec wr hx;obtain⟨C',cj,_⟩:=d9 _ (BM r);obtain⟨C2,dn⟩:=e8 _ (BM r);obtain⟨z1,z2,z3,z4⟩:=fu _ (BM r);obtain⟨y1,y2,y3⟩:=hsz _ (BM r);have al:=e1 _ (BM r);generalize f[i]=a at ec bm cj dn z1 z2 z3 z4 y1 y2 y3 al;refine(O 8∘Zv (Dr a.cells bm)∘Zn) ?_;rintro ab w4 f4 fn da;refine(Zs fn (hlt:=Bv _)) ?_;rintro w5 a3 e7;refine(O 5) ?_;replace a3:Bk w5 ab 40 a.cells:=a3;have b0:Bf wr w5:=Bu da e7 da.size (fun k hk=>by simp at hk;omega);have x5:Bf w w5:=hx.trans b0;have ba:=hv.ext b0;have bi:=hm.ext b0;have a6:=dv.ext b0;have hR:=a9.arc.rest;have f0:=al.tow;have cq:=al.fa;obtain⟨cz,en⟩:=a9.small;refine(O 3)<|Zi (fun hF=>?_) fun hF=>?_
    .have cp:∀j v,([U a.fa,.slice a.kA (Ajb a.ks) a.kk]:Bm)[j]? =J v->w5.cell? ⟨ab,0+5+j,Aa⟩=J v:=fun j v hj=>a3.cell_of (by
      rcases j with _|_|j
      .exact hj
      .exact hj
      .simp at hj)
     refine(O 4∘Zv (Dr [U a.fa,.slice a.kA (Ajb a.ks) a.kk] cp)∘Zc (zo ba.dev hR.ok a.fa cq.1 cq.2 a.kA a.kk C2 a.ks (dn.ext x5) al.nil al.klen)) ?_;rintro _ w6⟨rfl,d6,t6⟩;refine(O 7)<|Lb ((i+1),vb,({ j8 with D:=(j8.D.Agp a.fa a.ks).1 }),K,u,w6) ?_;obtain⟨j1,j2⟩:=zq a9 a.fa cq.2 a.ks al.klen;obtain⟨uu,q1,q2⟩:=ba.at_;exact⟨r,⟨d6,⟨uu,t6.bk q1 Bc,t6.own q2 Bc⟩,ba.low⟩,⟨g,nx,j1.more X⟩,j2.trans b9,t6.bk bi Bc,t6.own a6 Bc,Tm.below x5 t6 x5.size (Bv _)⟩
    .refine(O 7)<|Ld (fun((U2,e,w7):Vl×Y×Ad)=>(VAt w7 w.heap.size vb V U2/\FX j8 (U2,e) (10+800000*i+400000) K (FU K a)/\(a.kind=6->e=0)/\Bk w7 T 33 [u]/\Bo w7 0 64 2 u (Ajb K) (CO K)/\Bk w7 ab 40 a.cells/\Bf w w7,[(1,.slice (J ⟨b,o,Aa⟩) (Ajb f) c),(5,.pointer (J ⟨V,0,Aa⟩)),(6,.pointer (J ⟨vb,0,Aa⟩)),(7,.pointer (J ⟨T,0,Aa⟩)),(8,U i),(9,.pointer (J ⟨ab,0,Aa⟩)),(10,U e)],w7)) ?_ ?_
     .refine(O 5)<|Zi (fun d8=>?_) fun d8=>?_
      .refine(O 2∘Zv (BW a3)∘Zc (tD ba a9 X (hG.ext x5) bj x5.size a al X y2 z2 (fun x hx=>⟨by have:=z4 x hx;omega,(y3 x hx).2⟩) C' (cj.ext x5))) ?_;rintro _ w7⟨V',e,rfl,h',c',t7⟩;refine(O 2∘Lm (V',e,w7)) ?_;exact⟨h',c',fun z=>absurd z d8,t7.bk bi Bc,t7.own a6 Bc,t7.bk a3 Bc,Tm.below x5 t7 x5.size (Bv _)⟩
      .have k6:a.kind=6:=X;have e6:FU K a=K:=(Ag X).trans ((Ag X).trans (Ag X));refine(O 1∘Lm (j8,0,w5)) ?_;exact⟨ba,by rw[e6];exact a9.same X,fun _=>rfl,bi,a6,a3,x5⟩
     .rintro⟨U2,e,w7⟩⟨es,bq,e9,cn,c5,fl,x7⟩;have fd:U2.D.dead=decide (e=190):=uQ bq;have d0:U2.D.Ok:=bq.pv.ok.dev;have bn:U2.D.cap=n:=bq.1.trans b9;refine(O 2∘Zv (BW cn)∘Zn) ?_;rintro qb w8 b8 ez c9;refine(Zs ez (hlt:=Bv _)) ?_;rintro w9 aj e5;refine(O 3) ?_;replace aj:Bk w9 qb 33 [u]:=aj;have a4:Bf w7 w9:=Bu c9 e5 c9.size (fun k hk=>by simp at hk;omega);have x9:Bf w w9:=x7.trans a4;have bh:=cn.ext a4;have a0:=c5.ext a4;have cv:=fl.ext a4;have dg:=es.ext a4;have ds:T≠qb:=by have:=cn.lt;have:w7.heap.size<=qb:=b8;omega
      refine Ld (fun((u2,B,wa):Ah×(Ae En)×Ad)=>(B=(if e=0∨e=190 then FU K a else K)/\Bk wa qb 33 [u2]/\Bo wa 0 64 2 u2 (Ajb B) (CO B)/\VAt wa w.heap.size vb V U2/\Bk wa T 33 [u]/\Bo wa 0 64 2 u (Ajb K) (CO K)/\Bk wa ab 40 a.cells/\Bf w wa,[(1,.slice (J ⟨b,o,Aa⟩) (Ajb f) c),(5,.pointer (J ⟨V,0,Aa⟩)),(6,.pointer (J ⟨vb,0,Aa⟩)),(7,.pointer (J ⟨T,0,Aa⟩)),(8,U i),(9,.pointer (J ⟨ab,0,Aa⟩)),(10,U e),(11,.pointer (J ⟨qb,0,Aa⟩))],wa)) ?_ ?_
      .refine Lc (fun(d:Ar)=>(d=decide (e=0∨e=190),[(1,.slice (J ⟨b,o,Aa⟩) (Ajb f) c),(5,.pointer (J ⟨V,0,Aa⟩)),(6,.pointer (J ⟨vb,0,Aa⟩)),(7,.pointer (J ⟨T,0,Aa⟩)),(8,U i),(9,.pointer (J ⟨ab,0,Aa⟩)),(10,U e),(11,.pointer (J ⟨qb,0,Aa⟩)),(57,.bool d)],w9)) ?_ ?_
       .refine(O 4)<|Zd 54 (fun eg=>?_) fun eg=>?_
        .refine(O 4∘Lm Af) ?_;exact(AL (.inl eg)).symm
        .refine(O 4∘Lm (decide (e=190))) ?_;rw[decide_eq_decide];omega
       .rintro d rfl;refine Zi (fun hg=>?_) fun hg=>?_
        .refine(O 1∘Zv (BW bh)∘Zv (BW cv)∘Zc (uP K X en a X z2 (fun x hx=>by have:=z4 x hx;omega) u w9 (hG.ext x9).mlen a0 C' (cj.ext x9))) ?_;rintro _ W⟨⟨u5,rfl,a5⟩,N⟩;refine(Zs (aj.ext N) (hlt:=Bv _)) ?_;rintro wc ck bc;refine(O 1) ?_;have tc:Tm W wc w.heap.size (fun j8=>j8==33):=Tm.set (aj.ext N) bc (by have:=aj.lt;have:=x7.size;have:w7.heap.size<=qb:=b8;omega);refine(Lm (u5,(FU K a),wc)) ?_
         exact⟨(Ai hg).symm,ck,Bo.mo a5 bc (fun k hk=>by
          obtain⟨_,l',fv⟩:=a5.blkT k hk;simpa using fv.ne (aj.ext N) Bc),(dg.ext N).tmx tc Bc Bc Bc Bc Bc Bc Bc Bc,(bh.ext N).mo bc (by simpa using ds),tc.own (a0.ext N) Bc,tc.bk (cv.ext N) Bc,Tm.below (x9.trans N) tc (x9.trans N).size (Bv _)⟩
        .refine(O 1∘Lm (u,K,w9)) ?_;exact⟨(Ag hg).symm,aj,a0,dg,bh,a0,cv,x9⟩
      .rintro⟨u2,B,wa⟩⟨cs,cl,ai,df,cm,c4,ed,xa⟩;refine(O 2)<|Ld (fun((u3,m,W):Ah×(Ae En)×Ad)=>(m=(if e=0 then FU K a else K)/\Bk W T 33 [u3]/\Bo W 0 64 2 u3 (Ajb m) (CO m)/\Bk W qb 33 [u2]/\Bo W 0 64 2 u2 (Ajb B) (CO B)/\VAt W w.heap.size vb V U2/\Bk W ab 40 a.cells/\Bf w W,[(1,.slice (J ⟨b,o,Aa⟩) (Ajb f) c),(5,.pointer (J ⟨V,0,Aa⟩)),(6,.pointer (J ⟨vb,0,Aa⟩)),(7,.pointer (J ⟨T,0,Aa⟩)),(8,U i),(9,.pointer (J ⟨ab,0,Aa⟩)),(10,U e),(11,.pointer (J ⟨qb,0,Aa⟩))],W)) ?_ ?_
       .refine(O 4)<|Zi (fun b6=>?_) fun b6=>?_
        .refine(O 1∘Zv (BW cl)∘Zs cm (hlt:=Bv _)) ?_;rintro W bf b5;refine(O 1) ?_;have tb:Tm wa W w.heap.size (fun j8=>j8==33):=Tm.set cm b5 (by have:=bs.lt;omega);refine(Lm (u2,B,W)) ?_;exact⟨by rw[cs,Ai (.inl b6),Ai b6],bf,tb.own ai Bc,cl.mo b5 (by simpa using ds.symm),tb.own ai Bc,df.tmx tb Bc Bc Bc Bc Bc Bc Bc Bc,tb.bk ed Bc,Tm.below xa tb xa.size (Bv _)⟩
        .refine(O 1∘Lm (u,K,wa)) ?_;exact⟨(Ag b6).symm,cm,c4,cl,ai,df,ed,xa⟩
       .rintro⟨u3,m,W⟩⟨cr,bf,ao,ey,cc,ce,gb,xb⟩;have cd:=Qy ce.dev d0;rw[fd]at cd;refine(O 6∘Zc cd) ?_;rintro _ _⟨rfl,rfl⟩;refine(Zv (by exact pt underlying4 Z Z)∘O 1∘Cs 68 (.bool Aj) (e:=by simp)∘O 4)<|Lc (fun(d2:Ar)=>(d2=decide (a.kind≠6/\e≠190),[(1,.slice (J ⟨b,o,Aa⟩) (Ajb f) c),(5,.pointer (J ⟨V,0,Aa⟩)),(6,.pointer (J ⟨vb,0,Aa⟩)),(7,.pointer (J ⟨T,0,Aa⟩)),(8,U i),(9,.pointer (J ⟨ab,0,Aa⟩)),(10,U e),(11,.pointer (J ⟨qb,0,Aa⟩)),(76,.bool d2)],W)) ?_ ?_
        .refine(O 5)<|Zd 72 (fun c6=>?_) fun c6=>?_
         .refine(O 1∘Zc cd) ?_;rintro _ _⟨rfl,rfl⟩;refine(O 3∘Lm (decide (¬e=190))) ?_;rw[decide_eq_decide];exact⟨fun z=>⟨c6,z⟩,fun z=>z.2⟩
         .refine(O 5∘Lm Aj) ?_;exact(AN (fun z=>c6 z.1)).symm
        .rintro d2 rfl;refine Zi (fun cw=>?_) fun cw=>?_
         .obtain⟨g2,a7,cg⟩:∃g2 a7,VJ U2 g2 a7 (10+800000*i+400000) m:=by
           obtain⟨_,_,⟨_,g2,a7,q⟩|⟨q,_⟩⟩:=bq
           .exact⟨g2,a7,by rw[cr];exact q⟩
           .exact AI q cw.2
          obtain⟨A10,ek,rfl,_,f2⟩:=ao.slice;refine(O 4∘Zv (BW bf)) ?_;have ch:=SF ce cg X (fun w' t=>hG.ext (Tm.below xb t xb.size (Bv _))) m (by have:=cg.small;omega) A10 ek (fun w' t=>by obtain⟨_,_,eA,_,sl⟩:=(t.own ao Bc).slice;cases eA;exact⟨_,sl⟩) xb.size;rw[AL Z]at ch;refine(Zc ch) ?_;rintro _ wc⟨rfl,⟨nr,d4,er⟩,tc⟩;refine(O 10)<|Lb ((i+1),vb,({ U2 with D:=Dh U2.D nr }),m,(.slice A10 (Ajb m) ek:Ah),wc) ?_;exact⟨r,er,⟨g2,a7,(cg.calls nr).more X⟩,bn,tc.bk bf Bc,tc.own ao Bc,Tm.below xb tc xb.size (Bv _)⟩
         .have he:e=0∨e=190:=by
           rcases NZ (a.kind=6)with z|z
           .exact .inl (e9 z)
           .exact .inr (Dk.1 fun y=>cw ⟨z,y⟩)
          obtain⟨b7,ea,co⟩:=un ce bq he X (hG.ext xb).mlen bj;rw[<-cr,<-cs]at ea;rw[bn]at co;refine(O 4∘Zc co) ?_;rintro _ wc⟨⟨p,x,rfl,b4⟩,tc⟩;refine(O 11) ?_;have xc:Bf w wc:=Tm.below xb tc xb.size (Bv _);have bc:=tc.bk bf Bc;have c2:=tc.own ao Bc;have ck:=tc.bk ey Bc;have cb:=tc.own cc Bc;refine Lc (fun((af,U3,I):Y×Vl×Ad)=>(VAt I w.heap.size af V U3/\(∃g nx,VJ U3 g nx (10+800000*i+400080) b7)/\U3.D.cap=n/\Bk I T 33 [u3]/\Bo I 0 64 2 u3 (Ajb m) (CO m)/\Bk I qb 33 [u2]/\Bo I 0 64 2 u2 (Ajb B) (CO B)/\Bf w I,[(1,.slice (J ⟨b,o,Aa⟩) (Ajb f) c),(5,.pointer (J ⟨V,0,Aa⟩)),(7,.pointer (J ⟨T,0,Aa⟩)),(8,U i),(11,.pointer (J ⟨qb,0,Aa⟩)),(12,.pointer (J ⟨af,0,Aa⟩)),(13,U ((0:Y):H))],I)) ?_ ?_
          .refine(O 1)<|Lo (fun((q,p,x,I):Y×Ah×Y×Ad)=>((x=190->q=0)/\Stt I w.heap.size V n (10+800000*i+400040+40*q) b7 p x/\q<=1/\Bk I T 33 [u3]/\Bo I 0 64 2 u3 (Ajb m) (CO m)/\Bk I qb 33 [u2]/\Bo I 0 64 2 u2 (Ajb B) (CO B)/\Bf w I,[(1,.slice (J ⟨b,o,Aa⟩) (Ajb f) c),(5,.pointer (J ⟨V,0,Aa⟩)),(7,.pointer (J ⟨T,0,Aa⟩)),(8,U i),(11,.pointer (J ⟨qb,0,Aa⟩)),(12,p),(13,U x),(14,U q)],I,1-q)) (0,p,x,wc) ?_ ?_
           .exact⟨fun _=>rfl,b4,Bc,bc,c2,ck,cb,xc⟩
           .rintro⟨q,p,x,I⟩⟨c8,b4,f6,Q,L,bb,G,S⟩;refine(O 2)<|Lc (fun(d3:Ar)=>(d3=decide (x=190),[(1,.slice (J ⟨b,o,Aa⟩) (Ajb f) c),(5,.pointer (J ⟨V,0,Aa⟩)),(7,.pointer (J ⟨T,0,Aa⟩)),(8,U i),(11,.pointer (J ⟨qb,0,Aa⟩)),(12,p),(13,U x),(14,U q),(91,.bool d3)],I)) ?_ ?_
            .refine(O 4)<|Zd 88 (fun cx=>?_) fun cx=>?_
             .refine(O 4∘Lm (decide (q<3))) ?_;rw[AL cx];exact AL (by have:=c8 cx;omega)
             .refine(O 4∘Lm Aj) ?_;exact(AN cx).symm
            .rintro d3 rfl;refine Zi (fun P=>?_) fun P=>?_
             .obtain⟨D,Nx,ee,fi⟩:∃D,Cm I w.heap.size V D/\FellD D (10+800000*i+400040+40*q) b7/\D.cap=n:=by
               rcases b4 with⟨z,_⟩|⟨_,_,z⟩
               .omega
               .exact z
              have f7:=c8 P;refine(O 6∘Zc (up_d Nx ee.ok.1)) ?_;rintro _ we⟨rfl,eb,te⟩;refine(O 3) ?_;have xe:Bf w we:=Tm.below S te S.size (Bv _);have cu:=Aad ee eb X (hG.ext xe).mlen bj;rw[fi]at cu;refine(Zc cu) ?_;rintro _ wf⟨⟨p2,rfl,dk⟩,tf⟩;refine(O 12) ?_;have E:=te.trans tf;refine Lb ((q+1),p2,0,wf) ?_;exact⟨fun z=>absurd z Bc,by rw[Nat.mul_add,<-Kq];exact dk,X,E.bk Q Bc,E.own L Bc,E.bk bb Bc,E.own G Bc,Tm.below S E S.size (Bv _)⟩
             .have z0:=P;rcases b4 with⟨rfl,af,U3,g3,b2,rfl,h3,v3,c3⟩|⟨z,_⟩
              .refine(O 1∘Lm (af,U3,I)) ?_;exact⟨h3,⟨g3,b2,v3.more X⟩,c3,Q,L,bb,G,S⟩
              .exact AI z P
          .rintro⟨af,U3,I⟩⟨h3,⟨g3,b2,v3⟩,c3,Q,L,bb,G,S⟩;have f1:=v3.small;obtain⟨A3,k3,rfl,_,_⟩:=L.slice;obtain⟨A2,k2,rfl,_,_⟩:=G.slice;have ca:∀w',Tm I w' w.heap.size vty->∃C,Sl w' C A3 (CO m):=fun w' t=>by obtain⟨_,_,eA,_,sl⟩:=(t.own L Bc).slice;cases eA;exact⟨_,sl⟩
           have eo:∀w',Tm I w' w.heap.size vty->∃C,Sl w' C A2 (CO B):=fun w' t=>by obtain⟨_,_,eA,_,sl⟩:=(t.own G Bc).slice;cases eA;exact⟨_,sl⟩
           have a1:∀w',Tm I w' w.heap.size vty->Env w':=fun w' t=>hG.ext (Tm.below S t S.size (Bv _))
           have l3:Ajb m<=1000000:=by
            rw[cr];split
            .exact je cz z2
            .omega
           have l2:Ajb B<=1000000:=by
            rw[cs];split
            .exact je cz z2
            .omega
           have ch:=SF h3 v3 X a1 m l3 A3 k3 ca S.size;refine(O 11∘Zv (BW Q)) ?_;rcases NZ (b7=m)with hE|hE
           .rw[AL hE]at ch;refine(Zc ch) ?_;rintro _ we⟨rfl,⟨nr,d4,ct⟩,te⟩;refine(O 15) ?_;have e4:=te.bk Q Bc;refine(Zv (BW e4)) ?_;have bx:=SF ct (v3.calls nr) X (fun w' t=>a1 w' (te.trans t)) m l3 A3 k3 (fun w' t=>ca w' (te.trans t)) (BC S.size te.size);rw[AL hE]at bx;refine(Zc bx) ?_;rintro _ wf⟨rfl,⟨a2,d1,bl⟩,tf⟩;refine(O 2) ?_;have E:=te.trans tf;refine(O 12)<|Lb ((i+1),af,({ U3 with D:=Dh (Dh U3.D nr) a2 }),m,(.slice A3 (Ajb m) k3:Ah),wf) ?_;exact⟨r,bl,⟨g3,b2,by rw[<-hE];exact((v3.calls nr).calls a2).more X⟩,c3,E.bk Q Bc,E.own L Bc,Tm.below S E S.size (Bv _)⟩
           .have ef:=ea.resolve_left hE;rw[AN hE]at ch;refine(Zc ch) ?_;rintro _ we⟨rfl,⟨nr,d4,ct⟩,te⟩;refine(O 3) ?_;have ew:=te.bk bb Bc;refine(Zv (BW ew)) ?_;have bx:=SF ct (v3.calls nr) X (fun w' t=>a1 w' (te.trans t)) B l2 A2 k2 (fun w' t=>eo w' (te.trans t)) (BC S.size te.size);rw[AL ef]at bx;refine(Zc bx) ?_;rintro _ wf⟨rfl,⟨a2,d1,bl⟩,tf⟩;refine(O 4) ?_;have E:=te.trans tf;have e3:=E.bk Q Bc;refine(O 6∘Zv (BW e3)) ?_;have eh:=SF bl ((v3.calls nr).calls a2) X (fun w' t=>a1 w' (E.trans t)) m l3 A3 k3 (fun w' t=>ca w' (E.trans t)) (BC S.size E.size);rw[AN hE]at eh;refine(Zc eh) ?_;rintro _ wg⟨rfl,⟨c7,f3,fc⟩,tg⟩;refine(O 2) ?_;have b1:=E.trans tg;have d5:=b1.bk Q Bc;have et:=b1.bk bb Bc;refine(O 2∘Zv (BW et)∘Zs d5 (hlt:=Bv _)) ?_;rintro wh e2 b5;refine(O 11) ?_;have th:Tm wg wh w.heap.size (fun j8=>j8==33):=Tm.set d5 b5 (by have:=bs.lt;omega);have xg:Bf w wg:=Tm.below S b1 S.size (Bv _);refine Lb ((i+1),af,({ U3 with D:=Dh (Dh (Dh U3.D nr) a2) c7 }),B,(.slice A2 (Ajb B) k2:Ah),wh) ?_;exact⟨r,fc.tmx th Bc Bc Bc Bc Bc Bc Bc Bc,⟨g3,b2,by rw[<-ef];exact(((v3.calls nr).calls a2).calls c7).more X⟩,c3,e2,th.own (b1.own G Bc) Bc,Tm.below xg th xg.size (Bv _)⟩
   .refine(O 3∘Zc (el wr hx)) ?_;rintro _ w6⟨rfl,ep⟩;refine(O 2∘Br) ?_;exact⟨Z,ep⟩
end
section
open Go.ChangeShapes Go.WideShapes Go.ChangeAt
section
variable{j7:Type}{enc:Ay×Ah->j7}{P:AD}
def ow(hl:laidOutB P=Af){W W':Ad}(hx:Bf W W'):∀{ts:Ae Ay} {vs:Bm} {ds:Ae (DataW j7)} {ps:Ae MemPlace},
 (∀t∈ts,P.readableRec t=Af/\t<P.types.size)->DataW.TrodAll enc P W 0 (fun _=>Af) Af ts vs ds ps->(∀p∈ps,p.block<W.heap.size)->
 DataW.TrodAll enc P W' 0 (fun b=>decide (b<W.heap.size)) Af ts vs ds ps
 |[],vs,ds,ps,_,h,_=>by
  obtain⟨rfl,rfl,rfl⟩:=trodAll_nil h;rfl
 |t::ts,vs,ds,ps,hr,h,hlt=>by
  obtain⟨v,vs',d,ds',p,q,rfl,rfl,rfl,h1,h2⟩:=trodAll_cons h;refine trodAll_cons_mk (WideElems.Trod_stays hl Bg (hr t Bi).2 h1 (fun x hx'=>hx.same Bg) Bg) ?_;exact ow hl hx Bg h2 Bg
def law_post{f:Func}{s:ChangeSpec}{W W':Ad}{args:Ap Ah}{ds gs:Ae (DataW j7)}{before:Ae MemPlace}{T:Ay}
 (hW:DataW.Whole enc P f.params.toList s.vars Aj W args.toList ds gs before) (hv:s.vars=[]) (a:s.fn j7 (ds++gs)={ results:=[.lit (.bool Af)],args:=ds }) (d:f.resultTypes=#[T]) (g:P.underlying T=J .bool)
 (hl:laidOutB P=Af) (h:∀t∈f.params.toList,P.readableRec t=Af/\t<P.types.size) (hx:Bf W W'):s.post enc P f Aj Af Aj Aj W args (.bool Af) W':=by
 have j:=fun p i=>hW.lt p i;have e:=hW;obtain⟨p,q,k,l,rfl,_,_⟩:=hW;refine⟨_,_,_,[],p,[],e,?_,?_,?_,hx.frame _,Bg⟩
 .rw[a,d];exact trodAll_cons_mk (shut_bool g _) trodAll_mk0
 .rw[a];exact ow hl hx h k Bg
 .rw[a,hv];rfl
end
section
variable{j7:Type}{enc:Ay×Ah->j7}{P:AD}{W:Ad}{base:Y}{t e:Ay}{v:Ah}{d:DataW j7}{p:Ae MemPlace}{r:Reach}{b0:Y}
def bJ{n:H}(h:(Lit.int .i64 n).wf=Af):-9223372036854775808<=n/\n<=9223372036854775807:=by
 simp[Lit.wf,IntKind.min,IntKind.signed,IntKind.bits]at h;omega
def open_i64(ht:P.underlying t=J (.int .i64))(hval:Value.okWide P W r b0 t v)(f:DataW.Trod enc P W base (fun _=>Af) Af t v d p):∃n:H,v=.int .i64 n/\-9223372036854775808<=n/\n<=9223372036854775807:=by
 obtain⟨n,rfl,_,_,a⟩:=open_int ht hval f;exact⟨n,Z,bJ a⟩
def mZ{a:AC}{xs:Bm}(h:∀j u,xs[j]? =J u->W.cell? (a.add j)=J u):Sl W W.heap.size (J a) xs:=by
 by_cases l:xs=[]
 .exact .inl l
 .have m:0<Ajb xs:=Bg;have g:=h 0 xs[0] (BR m);have q:a.add 0=a:=by unfold Addr.add;simp
  obtain⟨b,o,k⟩:=a
  have f:k=Aa:=by
   unfold World.cell? at g;split at g
   .simp_all
   .grind
  subst f;refine .inr ⟨b,o,Z,World.block_lt_of_cell? W _ g,fun j u n=>?_⟩;have i:(⟨b,o,Aa⟩:AC).add j=⟨b,o+j,Aa⟩:=by unfold Addr.add;split<;>simp_all
  grind
def bI:∀{l:Ae (DataW j7)} {x:DataW j7},x∈l->∀n∈x.weights P e,n∈DataW.weightsAll P e l
 |y::l,x,hx,n,hn=>by
  simp[DataW.weightsAll,Dx];rcases List.mem_cons.1 hx with rfl|hx
  .grind
  .exact .inr (bI hx n hn)
 |[],_,hx,_,_=>by grind
end
end
section
open Go.ChangeShapes Go.WideShapes Go.ChangeAt Go.Deep
def YA{α:Type}{cells:α->Bm}{c:Y}(hc:∀a,Ajb (cells a)=c):∀(l:Ae α) (j:Y) (u:Ah),(l.flatMap cells)[j]? =J u->∃i r,∃hi:i<Ajb l,r<c/\j=i*c+r/\(cells l[i])[r]? =J u
 |[],j,u,h=>by grind
 |a::l,j,u,h=>by
  rw[FZ]at h;by_cases hj:j<c
  .rw[FN Bg]at h;exact⟨0,j,Bi,hj,X,h⟩
  .rw[Ii Bg,hc]at h;obtain⟨i,r,hi,hr,he,hu⟩:=YA hc l _ u h;exact⟨i+1,r,Bg,hr,Bg,Bg⟩
section
variable{j7:Type}{enc:Ay×Ah->j7}{P:AD}{W:Ad}{base:Y}{t e:Ay}{v:Ah}{d:DataW j7}{p:Ae MemPlace}{r:Reach}{b0:Y}
def yD{α:Type}[Inhabited α](cells:α->Bm)(ok:α->Prop){c:Y}(G:∀a,Ajb (cells a)=c)(ht:P.underlying t=J (.slice e))(hc:P.cellsOf e=c)
 (step:∀n cs x,DataW.trod enc P W base (fun _=>Af) Af n e cs=J x->(∀m∈x.1.weights P e,m<=reachBytes)->(∃es sp,d=.slice es sp/\x.1∈es)->∃a,cs=cells a/\ok a)
 (hval:Value.okWide P W r b0 t v) (hd:DataW.Trod enc P W base (fun _=>Af) Af t v d p)
 {K:Ae Ay} {ds:Ae (DataW j7)} (hsz:(DataW.weightsEach P K ds).all (·<=reachBytes)=Af) {j:Y} (N:K[j]? =J t) (h:ds[j]? =J d):
 ∃(l:Ae α) (A:Aw AC) (cap:Y),v=.slice A (Ajb l) cap/\(∀a∈l,ok a)/\(A=Aa->l=[])/\Ajb l*P.bytesOf e<=reachBytes/\Ajb l<=cap/\Sl W W.heap.size A (l.flatMap cells):=by
 obtain⟨A,len,cap,rfl⟩:=okWide_slice ht hval;obtain⟨S,hf⟩:=hd;rcases open_slice ht hf with⟨f,_⟩|⟨a,L,T,m,n,D,Pl,f,_,hl,hm,y,V,E⟩
 .obtain⟨rfl,rfl,rfl⟩:=f;exact⟨[],Aa,0,Z,Bi,fun _=>rfl,Bi,Bi,.inl Z⟩
 .obtain⟨rfl,rfl,rfl⟩:=f;subst y;obtain⟨rfl,rfl⟩:=V
  obtain⟨B,hB⟩:=choose_lt (α:=α) (p:=fun i b=>W.cells? base (a.add (i*c)) c=J (cells b)/\ok b) (n:=len) (fun i hi=>by
   obtain⟨I,Q,h2⟩:=E i X
   have hw:∀k∈(D i).weights P e,k<=reachBytes:=fun k hk=>by
    have g:D i∈(BF len).map D:=Bg
    have Q:k∈(DataW.slice ((BF len).map D) ((BF (m-len)).map fun j=>D (len+j))).weights P t:=by
     simp[DataW.weights,ht,List.mem_cons];exact .inr (.inl (bI g _ hk))
    have:=TG.1 hsz _ (DataW.weights_mem_each N h _ Q);grind
   obtain⟨b,rfl,hb⟩:=step n I _ h2 hw ⟨_,_,Z,Bg⟩;grind)
  have C:Ajb ((BF len).map B)=len:=Bi;refine⟨_,_,m,by rw[C],?_,Bi,?_,X,mZ fun i u hu=>?_⟩
  .grind
  .have:=sized_slice hsz N h ht;grind
  .obtain⟨q,s,hq,hs,rfl,o⟩:=YA G _ _ _ hu;have w:=by simpa using hq
   have hg:((BF _).map B)[q]=B q:=Bi;rw[hg]at o;rw[<-add_add,(World.cells?_some (hB q w).1).2.2 s hs];omega
end
section
variable{j7:Type}{enc:Ay×Ah->j7}{P:AD}{W:Ad}{base:Y}{t e:Ay}
def kI{α:Type}[Inhabited α](cells:α->Bm)(ok:α->Prop){c:Y}(y:∀a,Ajb (cells a)=c)(ht:P.underlying t=J (.slice e))(hc:P.cellsOf e=c)
 (step:∀n cs x,DataW.trod enc P W base (fun _=>Af) Af n e cs=J x->(∀m∈x.1.weights P e,m<=reachBytes)->∃a,cs=cells a/\ok a)
 {E:Y} {f:Bm} {C:DataW j7×Ae MemPlace} (hf:DataW.trod enc P W base (fun _=>Af) Af E t f=J C) (hsz:∀m∈C.1.weights P t,m<=reachBytes):
 ∃(l:Ae α) (A:Aw AC) (cap:Y),f=[.slice A (Ajb l) cap]/\(∀a∈l,ok a)/\(A=Aa->l=[])/\Ajb l*P.bytesOf e<=reachBytes/\Ajb l<=cap/\Sl W W.heap.size A (l.flatMap cells):=by
 rcases open_slice ht hf with⟨w,_⟩|⟨a,len,cap,m,n,D,Pl,rfl,_,hl,hm,o,G,v⟩
 .exact⟨[],Aa,0,w,Bi,fun _=>rfl,Bi,Bi,.inl Z⟩
 .subst o;subst G
  obtain⟨B,S⟩:=choose_lt (α:=α) (p:=fun i b=>W.cells? base (a.add (i*c)) c=J (cells b)/\ok b) (n:=len) (fun i hi=>by
   obtain⟨T,h1,h2⟩:=v i X
   have V:=fun k N=>by
    have d:D i∈(BF len).map D:=Bg;refine hsz k ?_;simp[DataW.weights,ht,List.mem_cons];exact .inr (.inl (bI d _ N))
   grind)
  have r:Ajb ((BF len).map B)=len:=Bi;refine⟨_,_,m,by rw[r],?_,Bi,?_,X,mZ fun i u I=>?_⟩
  .grind
  .have:=hsz ((Ajb ((BF len).map D)+Ajb ((BF (m-len)).map fun j=>D (len+j)))*P.bytesOf e) (by simp[DataW.weights,ht]);grind
  .obtain⟨q,s,L,K,rfl,g⟩:=YA y _ _ _ I;have h:=by simpa using L
   have Q:((BF _).map B)[q]=B q:=Bi;rw[Q]at g;rw[<-add_add,(World.cells?_some (S q h).1).2.2 s K];omega
def xS(ht:P.underlying t=J (.slice e))(he:P.underlying e=J .bool)(i:P.cellsOf e=1)(d:P.bytesOf e=1)
 {g:Y} {a:Bm} {f:DataW j7×Ae MemPlace} (hf:DataW.trod enc P W base (fun _=>Af) Af g t a=J f) (hsz:∀m∈f.1.weights P t,m<=reachBytes):
 ∃(l:Ae Ar) (A:Aw AC) (cap:Y),a=[.slice A (Ajb l) cap]/\(A=Aa->l=[])/\Ajb l<=140737488351232/\Sl W W.heap.size A (l.map fun b=>.bool b):=by
 obtain⟨l,A,cap,o,_,k,j,_,p⟩:=kI (fun b:Ar=>[Value.bool b]) (fun _=>True) (c:=1) (fun _=>rfl) ht i (fun n q x h _=>by
  obtain⟨b,rfl,_⟩:=DataW.trod_bool he h;simp) hf hsz
 refine⟨l,A,_,o,k,?_,?_⟩
 .rw[d,IP]at j;assumption
 .have e:∀l:Ae _,(l.flatMap fun b=>[Value.bool b])=l.map fun b=>.bool b:=fun l=>by
   induction l with
   |nil=>rfl
   |cons b l ih=>grind
  grind
end
end
section
open Go.ChangeShapes Go.WideShapes Go.ChangeAt Go.Deep Dsk
structure Fl where
 at_:H
 ks:Ae Ar
 A:Aw AC
 k:Y
def Fl.cells(f:Fl):Bm:=[U f.at_,.slice f.A (Ajb f.ks) f.k]
structure Fl.Ok(f:Fl)(w:Ad)(C:Y):Prop where
 at_:-9223372036854775808<=f.at_/\f.at_<=9223372036854775807
 nil:f.A=Aa->HP f.ks=[]
 len:Ajb f.ks<=140737488351232
 sl:Sl w C f.A (HP f.ks)
section
variable{j7:Type}{enc:Ay×Ah->j7}{W:Ad}{base:Y}{v:Ah}{d:DataW j7}{p:Ae MemPlace}{r:Reach}{b0:Y}
def two{l:Bm}(h:Ajb l=2):∃a b,l=[a,b]:=by
 match l,h with
 |[a,b],_=>simp
def tV(n:Y)(K:Bm)(x:DataW j7×Ae MemPlace)(h:DataW.trod enc prog W base (fun _=>Af) Af n 38 K=J x)(S:∀m∈x.1.weights prog 38,m<=reachBytes):∃a:Fl,K=a.cells/\a.Ok W W.heap.size:=by
 obtain⟨q,m,rfl,rfl,hl,t,B⟩:=DataW.trod_struct underlying38 h;obtain⟨N,L,rfl⟩:=two (hl.trans Be);have g:∀i (hi:i<2),∃y,q[i]? =J y:=Bg;obtain⟨P,e0⟩:=g 0 X;obtain⟨o,I⟩:=g 1 X;have G:DataW.trod enc prog W base (fun _=>Af) Af m 3 ((([N,L]:Bm).drop 0).take (prog.cellsOf 3))=J P:=(B 0 _ Z).trans e0;have E:DataW.trod enc prog W base (fun _=>Af) Af m 36 ((([N,L]:Bm).drop 1).take (prog.cellsOf 36))=J o:=(B 1 _ Z).trans I;rw[show prog.cellsOf 3=1 by kernel_rfl]at G;rw[show prog.cellsOf 36=1 by kernel_rfl]at E;obtain⟨n0,D,_,Q⟩:=DataW.trod_int underlying3 G;have f:(q.map (·.1))[1]? =J o.1:=by rw[Eh,I];rfl
 have e:∀k∈DataW.weightsEach _ [3,36] _,k<=reachBytes:=fun k w=>S k (by
  assumption)
 obtain⟨l,A,ab,C,hA,V,T⟩:=xS Bi underlying4 Be Be E (fun k w=>e k (DataW.weights_mem_each (j:=1) Z f _ w));simp at D C;subst D C;exact⟨⟨_,l,A,_⟩,Z,⟨bJ Q,fun h=>hA h▸Z,V,T⟩⟩
end
end
section
open Go.ChangeShapes Go.WideShapes Go.ChangeAt Go.Deep Pth Rec Srt Dsk Wal Cat Tar
section
variable{j7:Type}{enc:Ay×Ah->j7}{W:Ad}{base:Y}{v:Ah}{d:DataW j7}{p:Ae MemPlace}{r:Reach}{b0:Y}
instance:Inhabited En:=⟨⟨[],[]⟩⟩
instance:Inhabited Ta:=⟨⟨0,[],[],0,[],Aa,0,0,[],Aa,0⟩⟩
def Aex{l:Bm}(h:Ajb l=2):∃a b,l=[a,b]:=by
 match l,h with
 |[a,b],_=>exact⟨a,b,Z⟩
def Acd{l:Bm}(h:Ajb l=7):∃a b c d e f g,l=[a,b,c,d,e,f,g]:=by
 match l,h with
 |[a,b,c,d,e,f,g],_=>exact⟨a,b,c,d,e,f,g,Z⟩
def VZ{P:AD}{ts:Ae Ay}{ds:Ae (DataW j7)}{j:Y}{t:Ay}{s:Bh}(h:∀m∈DataW.weightsEach P ts ds,m<=reachBytes)(ht:ts[j]? =J t)(hd:ds[j]? =J (.lit (.string s))):Ajb s<=140737488351232:=
 BC (h _ (DataW.weights_mem_each ht hd _ (by simp[DataW.weights]))) Bc
def Wo(a:En):Prop:=Ajb a.path<=140737488351232/\Ajb a.data<=140737488351232
def tK(n:Y)(L:Bm)(x:DataW j7×Ae MemPlace)(h:DataW.trod enc prog W base (fun _=>Af) Af n 64 L=J x)(T:∀m∈x.1.weights prog 64,m<=reachBytes):∃a:En,L=a.cells/\Wo a:=by
 obtain⟨l,m,rfl,rfl,V,f,D⟩:=DataW.trod_struct underlying64 h;obtain⟨P,N,rfl⟩:=Aex (V.trans Be);have g:∀i (C:i<2),∃y,l[i]? =J y:=fun i C=>⟨_,BR (by rw[f];exact C)⟩;obtain⟨S,K⟩:=g 0 X;obtain⟨Q,I⟩:=g 1 X;have w:DataW.trod enc prog W base (fun _=>Af) Af m 9 ((([P,N]:Bm).drop 0).take (prog.cellsOf 9))=J S:=(D 0 _ Z).trans K;have t:DataW.trod enc prog W base (fun _=>Af) Af m 9 ((([P,N]:Bm).drop 1).take (prog.cellsOf 9))=J Q:=(D 1 _ Z).trans I;rw[show prog.cellsOf 9=1 by kernel_rfl]at w t;simp only[Ot,TJ,TV,Qd]at w t;obtain⟨B,G,q,w0⟩:=DataW.trod_string underlying9 w;obtain⟨A,E,o,w1⟩:=DataW.trod_string underlying9 t;simp only[RM.injEq,and_true]at G E;subst G E;have d0:(l.map (·.1))[0]? =J (.lit (.string B.data.toList)):=by rw[Eh,K,q];rfl
 have d1:(l.map (·.1))[1]? =J (.lit (.string A.data.toList)):=by rw[Eh,I,o];rfl
 have e:∀k∈DataW.weightsEach prog [9,9] (l.map (·.1)),k<=reachBytes:=fun k hk=>T k (by
  simp only[DataW.weights,underlying64];exact hk)
 exact⟨⟨B.data.toList,A.data.toList⟩,Z,VZ (j:=0) e Z d0,VZ (j:=1) e Z d1⟩
structure Ta.Oks(a:Ta):Prop where
 ok:a.Ok
 path:Ajb a.path<=140737488351232
 content:Ajb a.content<=140737488351232
 files:Ajb a.files<=140737488351232
 each:∀x∈a.files,Wo x
structure Ta.At(a:Ta)(w:Ad)(C:Y):Prop where
 files:Sl w C a.fA (CO a.files)
 keep:Sl w C a.kA (HP a.ks)
def dF(w:Ad)(C:Y)(A:Aw AC)(l:Ae Ta):Prop:=Sl w C A (bg l)/\(∀a∈l,a.At w C)/\Ajb l<=140737488351232
def Adm(n:Y)(L:Bm)(x:DataW j7×Ae MemPlace)(h:DataW.trod enc prog W base (fun _=>Af) Af n 40 L=J x)(Q:∀m∈x.1.weights prog 40,m<=reachBytes):∃a:Ta,L=a.cells/\a.Oks/\a.At W W.heap.size:=by
 obtain⟨o,m,rfl,rfl,hl,G,q⟩:=DataW.trod_struct underlying40 h;obtain⟨E,D,C,B,A,w,t,rfl⟩:=Acd (hl.trans Be);have g:∀i (hi:i<6),∃y,o[i]? =J y:=fun i hi=>⟨_,BR (by rw[G];exact hi)⟩;obtain⟨y0,e0⟩:=g 0 X;obtain⟨y1,e1⟩:=g 1 X;obtain⟨y2,e2⟩:=g 2 X;obtain⟨y3,e3⟩:=g 3 X;obtain⟨y4,e4⟩:=g 4 X;obtain⟨y5,e5⟩:=g 5 X;have f0:DataW.trod enc prog W base (fun _=>Af) Af m 3 ((([E,D,C,B,A,w,t]:Bm).drop 0).take (prog.cellsOf 3))=J y0:=(q 0 _ Z).trans e0;have f1:DataW.trod enc prog W base (fun _=>Af) Af m 9 ((([E,D,C,B,A,w,t]:Bm).drop 1).take (prog.cellsOf 9))=J y1:=(q 1 _ Z).trans e1;have f2:DataW.trod enc prog W base (fun _=>Af) Af m 9 ((([E,D,C,B,A,w,t]:Bm).drop 2).take (prog.cellsOf 9))=J y2:=(q 2 _ Z).trans e2;have f3:DataW.trod enc prog W base (fun _=>Af) Af m 3 ((([E,D,C,B,A,w,t]:Bm).drop 3).take (prog.cellsOf 3))=J y3:=(q 3 _ Z).trans e3;have f4:DataW.trod enc prog W base (fun _=>Af) Af m 31 ((([E,D,C,B,A,w,t]:Bm).drop 4).take (prog.cellsOf 31))=J y4:=(q 4 _ Z).trans e4;have V:DataW.trod enc prog W base (fun _=>Af) Af m 38 ((([E,D,C,B,A,w,t]:Bm).drop 5).take (prog.cellsOf 38))=J y5:=(q 5 _ Z).trans e5;rw[show prog.cellsOf 3=1 by kernel_rfl]at f0 f3;rw[show prog.cellsOf 9=1 by kernel_rfl]at f1 f2;rw[show prog.cellsOf 31=1 by kernel_rfl]at f4;rw[show prog.cellsOf 38=2 by kernel_rfl]at V;simp only[Ot,TJ,TV,Qd]at f0 f1 f2 f3 f4 V;obtain⟨n0,h0,_,w0⟩:=DataW.trod_int underlying3 f0;obtain⟨s1,h1,P,_⟩:=DataW.trod_string underlying9 f1;obtain⟨s2,h2,N,_⟩:=DataW.trod_string underlying9 f2;obtain⟨n3,h3,_,w3⟩:=DataW.trod_int underlying3 f3;have d1:(o.map (·.1))[1]? =J (.lit (.string s1.data.toList)):=by rw[Eh,e1,P];rfl
 have d2:(o.map (·.1))[2]? =J (.lit (.string s2.data.toList)):=by rw[Eh,e2,N];rfl
 have d4:(o.map (·.1))[4]? =J y4.1:=by rw[Eh,e4];rfl
 have d5:(o.map (·.1))[5]? =J y5.1:=by rw[Eh,e5];rfl
 have e:∀k∈DataW.weightsEach prog [3,9,9,3,31,38] (o.map (·.1)),k<=reachBytes:=fun k I=>Q k (by
  simp only[DataW.weights,underlying40];exact I)
 obtain⟨l,fA,fc,h4,T,_,K,_,S⟩:=kI (α:=En) En.cells Wo (c:=2) (fun _=>rfl) underlying31 Be (fun n L x hx Q=>tK n L x hx Q) f4 (fun k I=>e k (DataW.weights_mem_each (j:=4) Z d4 _ I));rw[show prog.bytesOf 64=32 by kernel_rfl]at K;simp only[reachBytes]at K;obtain⟨fl,h5,f⟩:=tV m _ _ V (fun k I=>e k (DataW.weights_mem_each (j:=5) Z d5 _ I));have l1:=VZ (j:=1) e Z d1;have l2:=VZ (j:=2) e Z d2;simp only[RM.injEq,and_true]at h0 h1 h2 h3 h4;subst h0 h1 h2 h3 h4;obtain⟨fa,ks,kA,kk⟩:=fl;simp only[Fl.cells,RM.injEq,and_true]at h5;obtain⟨rfl,rfl⟩:=h5;exact⟨⟨n0,s1.data.toList,s2.data.toList,n3,l,fA,fc,fa,ks,kA,kk⟩,Z,⟨⟨bJ w3,f.at_,f.nil,f.len⟩,l1,l2,by show Ajb l<=_;omega,T⟩,⟨S,f.sl⟩⟩
def open_Act(hval:Value.okWide prog W r b0 22 v)(q:DataW.Trod enc prog W base (fun _=>Af) Af 22 v d p)
 {g:Ae Ay} {ds:Ae (DataW j7)} (hsz:(DataW.weightsEach prog g ds).all (·<=reachBytes)=Af) {j:Y} (o:g[j]? =J 22) (e:ds[j]? =J d):
 ∃(l:Ae Ta) (A:Aw AC) (cap:Y),v=.slice A (Ajb l) cap/\(∀a∈l,a.Oks)/\dF W W.heap.size A l:=by
 obtain⟨l,A,cap,w,i,_,h,_,t⟩:=yD (α:=Ta) Ta.cells (fun a=>a.Oks/\a.At W W.heap.size) (c:=7) (fun _=>rfl) underlying22 Be (fun n y x k m _=>Adm n y x k m) hval q hsz o e;rw[show prog.bytesOf 40=104 by kernel_rfl]at h;simp only[reachBytes]at h;exact⟨l,A,cap,w,fun a f=>(i a f).1,t,fun a f=>(i a f).2,X⟩
end
def mlen_of{w:Ad}(h:w.ShapedOpen prog):Dy w:=Tryz.Ail.s1_3 w h
def tab_of6{W:Ad}(h:laidMetH prog Rows.topCrashRow.laid W):Qo W:=by
 have a:laidMet prog [("internal/strconv.uint64pow10",Lib.tabData .u64 Lib.pow10Tab),("unicode/utf8.acceptRanges",Rows.laid_unicode_utf8_acceptRanges),("unicode/utf8.first",Rows.laid_unicode_utf8_first)] W:=laidMet.tail (laidMet.tail h);exact Lib.tabBelow_of_tabIs (Lib.tabIs_of_head (rest:=[("unicode/utf8.acceptRanges",Rows.laid_unicode_utf8_acceptRanges),("unicode/utf8.first",Rows.laid_unicode_utf8_first)]) (g:=3) Be Be underlying399 underlying211 Be Be a)
def xK{w:Ad}(h:Dy w):0<w.heap.size:=by
 obtain⟨m,h⟩:=h;exact World.block_lt_of_cell? w _ h
def topCrash_z(cap:H)(c0:-9223372036854775808<=cap)(c1:cap<=9223372036854775807)(acts:Ae Ta)(hok:∀a∈acts,a.Oks)(A:Aw AC)(c:Y)(w:Ad)(C:Y)(hs:dF w C A acts)(ht:Qo w)(hm:Dy w):
 Bn prog 4 [U cap,.slice A (Ajb acts) c] w fun v w'=>v=.bool Af/\Bf w w':=
 Aer cap c0 c1 acts (fun a ha=>(hok a ha).ok) A c C w ⟨ht,hm⟩ (xK hm) hs.1 (BC hs.2.2 Bc)
  (fun a ha=>⟨C,(hs.2.1 a ha).files,BC (hok a ha).files Bc⟩) (fun a ha=>⟨C,(hs.2.1 a ha).keep⟩) (fun a ha=>⟨BC (hok a ha).path Bc,BC (hok a ha).content Bc,fun x hx=>⟨BC ((hok a ha).each x hx).1 Bc,BC ((hok a ha).each x hx).2 Bc⟩⟩)
end
end Go.Proofs.YtkmlafmjaeeanaaGreatDoor
