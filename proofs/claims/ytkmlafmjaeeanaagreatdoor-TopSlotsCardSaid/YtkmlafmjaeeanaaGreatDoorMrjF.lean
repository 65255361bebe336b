/- TopSlots, part F: what the archive keeps, and the walk of TopSlots itself. -/
import Derived.Test.YtkmlafmjaeeanaaGreatDoorMrjE
set_option linter.all false
set_option maxHeartbeats 2000000
set_option maxRecDepth 20000
open Go Go.RowKit Go.Proofs.Tryz
open _root_ renaming rfl→Z,Nat→Y,Int→H,List→Ae,if_neg→Ag,if_pos→Ai,Array→Ap,congrArg→Ar,Option→Av,Bool→Aw,trivial→AB,UInt8→AH,String→AJ,absurd→AK,decide_eq_true→AM,decide_eq_false→AN,of_decide_eq_true→AO,dif_pos→AQ,of_decide_eq_false→AR
open _root_.Array renaming replicate→JW
open _root_.Bool renaming true→Af,false→Aj
open _root_.Go renaming World→Ad,Value→Ah,TypeId→Ay,Addr→AC,Operand→AD,Program→AE,Act→AF,Oper→AG,IntKind→AI,Code→AL,Exit→AP
open _root_.List renaming range→BE,replicate→BG,length→DW,Pairwise→GS,zipWith→HJ,cons→Qc,getD→TK,length→Aim
open _root_.Nat renaming blt→BL,beq→Jw,reducePow→Lh
open _root_.Option renaming some→X,none→Aa
open _root_.Prod renaming mk→Qq,snd→RZ
open _root_.UInt8 renaming ofNat→BS
namespace Go.Proofs.YtkmlafmjaeeanaaGreatDoor
section
open Pth Rec Srt Dsk Wal Cat Tar
structure VI(V:Vl)(g nx k:Y)(fs:Ae En):Prop where
 arc:Arc V.D g nx V.mems
 files:Fil V.D V.mems fs
 gen:V.gen=(g:H)
 next:V.next=(nx:H)
 good:V.broken=Aj
 at_:V.D.at_=0
 sm:Sm V.D k
 gk:g<=k
section
variable{V:Vl}{D:Dv}{g nx k:Y}{ms:Ae M}{fs fs':Ae En}{ns:Ae Nt}
def VI.more{k':Y}(h:VI V g nx k fs)(hk:k<=k'):VI V g nx k' fs:=⟨h.arc,h.files,h.gen,h.next,h.good,h.at_,h.sm.more hk,BF h.gk hk⟩
def QU{l:Ae M}{cap:H}(h:OkC l cap){m:M}(hm:m∈l):30<=m.start/\1<=m.sectors/\m.start+m.sectors<=cap/\cap<=4096:=by
 have a:=h.ext.fit _ (QF hm);have d:=h.ext.room;unfold Ht at a;omega
def VI.ok(h:VI V g nx k fs):VOk V k:=by
 obtain⟨d,e⟩:=h.arc.ok;obtain⟨i,f⟩:=h.arc.gle;have l:=h.gen;have j:=h.next;exact⟨h.arc.rest.ok,h.sm,J,J,fun m a=>Yl ⟨d.may m a,e m a⟩,by have:=d.len;omega,fun m a=>by have:=(JO (d.may m a)).1;omega⟩
def VI.live(h:VI V g nx k fs):¬(V.broken=Af∨V.D.dead=Af):=by
 rw[h.good,h.arc.rest.dead];simp
def UV{D':Dv}{P:Y->BR->Prop}(hf:Fil D ms fs)(hok:OkC ms D.cap)(u:Upn 4096 P D.now D'.now)(hp:∀j t,P j t->j<30):Fil D' ms fs:=
 hf.up u (fun m hm=>by have:=QU hok hm;omega) fun m hm j h1 h2 t q=>by
  have:=QU hok hm;grind
def VI.room(h:VI V g nx k fs)(hk:k<=1000000000){n:Y}(m:n<=20):∃g' nx',(Dg V (n:H)).2=0/\VI (Dg V (n:H)).1 g' nx' (k+6) fs/\nx'+n<=20/\(Dg V (n:H)).1.mems=V.mems/\(Dg V (n:H)).1.D.cap=V.D.cap:=by
 have i:=h.next;have l:=h.gk;unfold Dg;by_cases q:(n:H)<=20-V.next
 .rw[Ai q];exact⟨g,nx,Z,h.more J,J,Z,Z⟩
 .rw[Ag q];have e:V.gen+1=((g+1:Y):H):=by rw[h.gen];omega
  have f:=h.arc.cap;have d:=h.arc.ok.1;rw[e];have b:=au (g:=g+1) h.arc.rest (SO d J) d J;have z:=b.zero h.at_;rw[Ag (fun q=>q z)];obtain⟨a,u⟩:=h.arc.saved J b z;exact⟨g+1,0,Z,⟨a,UV h.files d u (fun j t q=>by omega),Z,Z,h.good,PD b h.at_,b.sm h.sm,J⟩,J,Z,b.cap⟩
def fj(o:Arc V.D g nx V.mems)(n:V.D.at_=0)(m:V.gen=(g:H))(h:V.next=(nx:H))(r:V.broken=Aj)(p:Sm V.D k)(w:g<=k)(hf:Fil V.D (DS V.mems ns) fs')(l:ns≠[])(d:Wal.Good ns)(f:nx+Aim ns+1<=20)(i:OkC (DS V.mems ns) V.D.cap)(v:Km (DS V.mems ns)):
 (Kv V ns).2=0/\VI (Kv V ns).1 g (nx+Aim ns+1) (k+(Aim ns+2)) fs'/\(Kv V ns).1.mems=DS V.mems ns/\(Kv V ns).1.D.cap=V.D.cap:=by
 unfold Kv;rw[m,h];obtain⟨b,e⟩:=qW o.rest o.cap o.gle.1 l d f;have z:=b.zero n;rw[Ag (fun q=>q z)];obtain⟨a,u⟩:=o.Aia l d f i v b z;exact⟨Z,⟨a,UV hf i u (fun j t q=>q),Z,e z,r,PD b n,b.sm p,J⟩,Z,b.cap⟩
def VI.after{a:Ae Ch}{n:Y}{c:Dv×Y}(h:VI V g nx k fs)(b:Bt V.D a n c)(o:Wr a)(x:∀c∈a,c.ok V.D.cap)(hl:∀j t,CX a j t->30<=j)(p:∀j t t',CX a j t->CX a j t'->t=t')
 (l:ns≠[]) (d:Wal.Good ns) (f:nx+Aim ns+1<=20) (w:OkC (DS V.mems ns) V.D.cap) (r:Km (DS V.mems ns))
 (hf:∀D':Dv,Upn 4096 (CX a) V.D.now D'.now->(∀j t,CX a j t->(j+1)*512<=Aim D'.now/\Cb D'.now j=t)->Fil D' (DS V.mems ns) fs'):
 (Mm V c ns).2=0/\VI (Mm V c ns).1 g (nx+Aim ns+1) (k+(n+1)+(Aim ns+2)) fs'/\(Mm V c ns).1.mems=DS V.mems ns/\(Mm V c ns).1.D.cap=V.D.cap:=by
 have i:=h.arc.rest;have s:=Sy.of i b;have z:=s.zero h.at_;obtain⟨E,e⟩:=c
 have m:e=0:=by
  by_cases q:e=0
  .omega
  .grind
 subst m;rw[Ai Z]at s z;rw[Xb,Ag (fun q=>q z)];obtain⟨u,_⟩:=s.up i o 4096;obtain⟨v,_⟩:=s.live i x z;have y:=h.arc.up v s.cap u Bl hl;have:=fj (V:={ V with D:=E.sync.1 }) (ns:=ns) (fs':=fs') (k:=k+(n+1)) y (PD s h.at_) h.gen h.next h.good (s.sm h.sm) (by have:=h.gk;omega) (hf _ u fun j t q=>s.has i o z p q) l d f (by show OkC _ (E.sync.1.cap:H);rw[s.cap];omega) r;exact⟨this.1,this.2.1,this.2.2.1,this.2.2.2.trans s.cap⟩
def lE{cap:H}{E0:Ae Xt}:∀(l:Ae En) (ps r:Ae Xt),OkX (E0++ps) cap->Fzs cap E0 ps l=(r,0)->∃qs,r=ps++qs/\qs.map RZ=l.map Ca/\OkX (E0++r) cap
 |[],ps,r,h,e=>by
  rw[Fzs]at e;simp_all
 |x::l,ps,r,h,e=>by
  rw[Fzs]at e;split at e
  .grind
  .rename_i q;have q0:(ER (E0++ps) cap (Ca x)).2=0:=Dm.1 q;obtain⟨a1,a2,a3⟩:=Yq q0;have a4:=a3.ok a1 h;rw[Cq]at a4;obtain⟨qs,rfl,b2,b3⟩:=lE l _ r a4 e;grind
noncomputable def GG(zs:Ae (Xt×En)):Ae Ch:=zs.flatMap fun z=>chs z.1.1.toNat (EG (Cj z.2))
def Xy{s:BR}(h:Aim s%512=0):∀t∈EG s,Aim t=512:=fun t a=>by
 unfold EG at a;grind
def eJ{s:BR}{k:Y}(h:k<Aim s/512):(EG s).getD k []=Cb s k:=by
 unfold EG;rw[BX,DP,Nk h];rfl
def Bt.writeX:∀(zs:Ae (Xt×En)) {D:Dv},D.dead=Aj->(∀z∈zs,Fits z.2/\z.1.1.toNat+Aim (Cj z.2)/512<=D.cap)->Bt D (GG zs) (Aim (GG zs)) (writeX D zs)
 |[],D,h,_=>Bt.nil h
 |(p,x)::zs,D,h,hz=>by
  obtain⟨q1,q2⟩:=hz _ (Fa ..);have el:=JN q1;have b:=Bt.writes (EG (Cj x)) (D:=D) p.1.toNat h (Xy el.1) (by rw[Mr];omega);have e:GG ((p,x)::zs)=chs p.1.toNat (EG (Cj x))++GG zs:=EY;rw[Go.Proofs.YtkmlafmjaeeanaaGreatDoor.writeX,e,BA,Xz];split
  .rename_i q;exact b.stop q _ J
  .rename_i q;have q0:=Dm.1 q;exact b.trans q0 (Bt.writeX zs (b.live q0) fun z hz'=>by rw[b.cap];grind)
def St{zs:Ae (Xt×En)}{j:Y}{t:BR}(h:CX (GG zs) j t):∃z∈zs,z.1.1.toNat<=j/\j<z.1.1.toNat+Aim (Cj z.2)/512/\(EG (Cj z.2)).getD (j-z.1.1.toNat) []=t:=by
 obtain⟨z,d,q⟩:=Ov.1 h;obtain⟨a,b,c⟩:=(LA _ _ _ _).1 q;rw[Mr]at b;grind
def jq{zs:Ae (Xt×En)}{z:Xt×En}(hz:z∈zs){k:Y}(hk:k<Aim (Cj z.2)/512):CX (GG zs) (z.1.1.toNat+k) (Cb (Cj z.2) k):=
 Ov.2 ⟨z,hz,(LA _ _ _ _).2 ⟨J,by rw[Mr];omega,by rw[Ki,eJ hk]⟩⟩
def fz:∀(zs:Ae (Xt×En)),(∀z∈zs,Aim (Cj z.2)/512<=4096)->Aim (GG zs)<=4096*Aim zs
 |[],_=>Bq _
 |z::zs,h=>by
  have e:GG (z::zs)=chs z.1.1.toNat (EG (Cj z.2))++GG zs:=EY;have:=fz zs fun y hy=>h y (El _ hy);have:=h z (Fa ..);rw[e,BA,Xz,Mr,Cv];omega
structure Plac(cap:H)(ms:Ae M)(zs:Ae (Xt×En)):Prop where
 ok:OkX (BV ms++zs.map Prod.fst) cap
 fit:∀z∈zs,Fits z.2
 len:∀z∈zs,z.1.2=Ca z.2
section
variable{zs:Ae (Xt×En)}{cap:H}
def Plac.z(h:Plac cap ms zs){z:Xt×En}(a:z∈zs):30<=z.1.1/\z.1.1+Ca z.2<=cap/\cap<=4096/\2<=Ca z.2/\Ca z.2=((Aim (Cj z.2)/512:Y):H):=by
 have d:=h.ok.fit z.1 (List.mem_append_right _ (Ck.2 ⟨z,a,Z⟩));have j:=h.ok.room;have f:=h.len z a;have i:=JN (h.fit z a);unfold Ht at d;rw[f]at d;have e:Ca z.2=((Aim (Cj z.2)/512:Y):H):=rfl;omega
def Plac.one(h:Plac cap ms zs):∀j t t',CX (GG zs) j t->CX (GG zs) j t'->t=t':=fun j t t' a b=>by
 obtain⟨z,d,A,x,w⟩:=St a;obtain⟨y,e,r,p,o⟩:=St b;have f:zs.Pairwise fun u v=>apart u.1 v.1:=Mc.1 (Mb.1 h.ok.far).2.1;rcases zx (fun u v q=>Xj q) f z d y e with rfl|q
 .grind
 .exfalso;have i:=h.z d;have l:=h.z e;have n:=h.len z d;have m:=h.len y e;unfold apart at q;omega
def Plac.away(h:Plac cap ms zs){m:M}(hm:m∈ms):Wa (CX (GG zs)) (m.start,m.sectors):=fun j f e t q=>by
 obtain⟨z,a,o,n,l⟩:=St q;have d:=h.z a;have i:=h.len z a;have q:=(Mb.1 h.ok.far).2.2 _ (QF hm) z.1 (Ck.2 ⟨z,a,Z⟩);unfold apart at q;omega
def Plac.wr(h:Plac cap ms zs):Wr (GG zs):=fun c d=>by
 obtain⟨z,a,q⟩:=Ov.1 d;exact Rx _ _ (Xy (JN (h.fit z a)).1) c q
def Plac.okc{c:Y}(h:Plac (c:H) ms zs):∀d∈GG zs,d.ok c:=fun d e=>by
 obtain⟨z,a,q⟩:=Ov.1 e;have f:=h.z a;exact Us (Xy (JN (h.fit z a)).1) (by rw[Mr];omega) d q
def Plac.files{D':Dv}{c:Y}(h:Plac (c:H) ms zs)(d:Df M.path ms)(hf:Fil D ms fs)(u:Upn 4096 (CX (GG zs)) D.now D'.now)(o:∀j t,CX (GG zs) j t->(j+1)*512<=Aim D'.now/\Cb D'.now j=t):
 Df M.path (zs.foldl (fun l z=>Cc M.path (mz z) l) ms)/\OkX (BV (zs.foldl (fun l z=>Cc M.path (mz z) l) ms)) c/\Fil D' (zs.foldl (fun l z=>Cc M.path (mz z) l) ms) ((zs.map RZ).foldl (fun f x=>Cc En.path x f) fs)/\
  ∀m∈zs.foldl (fun l z=>Cc M.path (mz z) l) ms,m∈ms∨∃z∈zs,m=mz z:=by
 refine lS zs ms fs d h.ok (hf.up u (fun m n=>?_) fun m n=>h.away n) fun z a=>?_
 .have r:=h.ok.fit _ (TQ _ (QF n));have y:=h.ok.room;unfold Ht at r;omega
 .have w:=h.z a;have v:=JN (h.fit z a);refine Stands.of (h.fit z a) (by show 0<=z.1.1;omega) (h.len z a) Z Z ⟨v.1,J,?_,fun i p=>(o _ _ (jq a p)).2⟩;have q:=(o _ _ (jq a (k:=Aim (Cj z.2)/512-1) J)).1;have e:z.1.1.toNat+(Aim (Cj z.2)/512-1)+1=z.1.1.toNat+Aim (Cj z.2)/512:=J;rw[e]at q;exact q
end
def Zr{cap:H}{zs:Ae (Xt×En)}(h:Plac cap ms zs){z:Xt×En}(a:z∈zs):Dq (mz z)/\(mz z).sum<=4294967295:=by
 have d:=h.z a;have i:=h.len z a;have f:=h.fit z a;have e:=f.data;have:=eK z.2.data;exact⟨⟨f.path,d.1,by show 1<=z.1.2;omega,by show z.1.2<=4096;omega,by show z.1.1+z.1.2<=4096;omega,by show(0:H)<=(Aim z.2.data:H);omega,by show(Aim z.2.data:H)<=8192;omega⟩,by show Fc z.2.data<=_;omega⟩
def jc{cap:H}{zs:Ae (Xt×En)}(h:Plac cap ms zs):Wal.Good (zs.map fun z=>(⟨1,mz z⟩:Nt)):=fun n e=>by
 obtain⟨z,d,rfl⟩:=Ck.1 e;obtain⟨a,b⟩:=Zr h d;refine⟨?_,b⟩;unfold CH;rw[XK,Ai a];simp
def lT{cap:H}{zs:Ae (Xt×En)}(h:Plac cap ms zs)(hc:OkC ms cap)(hs:Km ms)(hms:Df M.path (zs.foldl (fun l z=>Cc M.path (mz z) l) ms))(hx:OkX (BV (zs.foldl (fun l z=>Cc M.path (mz z) l) ms)) cap)(hm:∀m∈zs.foldl (fun l z=>Cc M.path (mz z) l) ms,m∈ms∨∃z∈zs,m=mz z)(hl:Aim (zs.foldl (fun l z=>Cc M.path (mz z) l) ms)<=16):
 OkC (zs.foldl (fun l z=>Cc M.path (mz z) l) ms) cap/\Km (zs.foldl (fun l z=>Cc M.path (mz z) l) ms):=
 ⟨⟨hl,fun m q=>by
  rcases hm m q with a|⟨z,hz,rfl⟩
  .exact hc.may m a
  .exact(Zr h hz).1,hms,hx⟩,fun m q=>by
  rcases hm m q with a|⟨z,hz,rfl⟩
  .exact hs m a
  .exact(Zr h hz).2⟩
def VI.putF(h:VI V g nx k fs)(hk:k<=900000000){l:Ae En}{ps:Ae Xt}(C:Aim ps=Aim l)(d:Plac V.D.cap V.mems (ps.zip l))(p:l≠[])(hl:Aim (DS V.mems (HJ Dw l ps))<=16)(ab:Aim l<=16):
 (Go.Proofs.YtkmlafmjaeeanaaGreatDoor.putF V l ps).2=0/\∃g' nx',VI (Go.Proofs.YtkmlafmjaeeanaaGreatDoor.putF V l ps).1 g' nx' (k+100000) (l.foldl De fs)/\(Go.Proofs.YtkmlafmjaeeanaaGreatDoor.putF V l ps).1.mems=DS V.mems (HJ Dw l ps)/\(Go.Proofs.YtkmlafmjaeeanaaGreatDoor.putF V l ps).1.D.cap=V.D.cap:=by
 unfold Go.Proofs.YtkmlafmjaeeanaaGreatDoor.putF;rw[Ag p];obtain⟨g1,P,I,f,r3,v,r⟩:=h.room J (n:=Aim l+1) J;rw[Ag (fun q=>q I)];generalize(Dg V ((Aim l+1:Y):H)).1=R at f v r ⊢;have o:=h.arc.ok.1.rises;obtain⟨zs,hzs⟩:∃zs,zs=ps.zip l:=⟨_,Z⟩;have e2:zs.map RZ=l:=by rw[hzs,List.map_snd_zip J]
 rw[bN,<-hzs]at hl ⊢;rw[<-hzs]at d;rw[<-v,<-r]at d;rw[<-v]at hl o ⊢;have E:DS R.mems (zs.map fun z=>⟨1,mz z⟩)=zs.foldl (fun l z=>Cc M.path (mz z) l) R.mems:=by rw[Nx o,YA]
 have Q:Aim zs=Aim l:=by rw[<-e2,DQ]
 have b:=Bt.writeX zs (D:=R.D) f.arc.rest.dead fun z i=>⟨d.fit z i,by have:=d.z i;omega⟩;have af:Aim (GG zs)<=4096*16:=BF (fz zs fun z i=>by have:=d.z i;omega) (Nat.mul_le_mul_left _ J);have B:=(oQ l fs (Vx f.files.keys o)).1;obtain⟨N,L⟩:=f.arc.ok;rw[E]at hl
 have T:OkC (zs.foldl (fun l z=>Cc M.path (mz z) l) R.mems) R.D.cap/\Km (zs.foldl (fun l z=>Cc M.path (mz z) l) R.mems):=by
  have K:∀(zs:Ae (Xt×En)) (ms:Ae M),Df M.path ms->OkX (BV ms++zs.map Prod.fst) R.D.cap->Df M.path (zs.foldl (fun l z=>Cc M.path (mz z) l) ms)/\OkX (BV (zs.foldl (fun l z=>Cc M.path (mz z) l) ms)) R.D.cap/\∀m∈zs.foldl (fun l z=>Cc M.path (mz z) l) ms,m∈ms∨∃z∈zs,m=mz z:=fun zs=>by
   induction zs with
   |nil=>grind
   |cons z zs ih=>
    intro ms a b;obtain⟨A,x,w⟩:=ih _ (ML M.path (mz z) a) (Yg (m:=mz z) a b);refine⟨A,x,fun m W=>?_⟩;rcases w m W with q|⟨y,hy,e⟩
    .rcases(Mz M.path (mz z) a m).1 q with q|q
     .grind
     .grind
    .grind
  obtain⟨A,x,w⟩:=K zs R.mems o d.ok;exact lT d N L A x w hl
 have:=f.after (fs':=l.foldl De fs) (ns:=zs.map fun z=>⟨1,mz z⟩) b d.wr d.okc (fun j t q=>by
  obtain⟨z,i,G,_⟩:=St q;have:=d.z i
  omega) d.one (fun e=>p (Gx (by simp_all))) (jc d) Bh Bh Bh fun D' u S=>by
   rw[E,B];have:=(d.files o f.files u S).2.2.1;grind
 obtain⟨G,a2,a3,a4⟩:=this;refine⟨G,g1,_,a2.more ?_,a3,a4.trans r⟩;grind
def kO(l:Ae En)(ps:Ae Xt)(h:Aim ps=Aim l)(ms:Ae M)(a:Df M.path ms):
 (DS ms (l.map Ez)).map M.path=SF (l.map En.path) (ms.map M.path)/\(DS ms (HJ Dw l ps)).map M.path=SF (l.map En.path) (ms.map M.path):=by
 constructor
 .rw[Nx a]
  have e:(l.map Ez).foldl NU ms=(l.map fun x=>(Ez x).mem).foldl (fun l m=>Cc M.path m l) ms:=by
   rw[Wx,Wx];rfl
  rw[e,ZY,EE];rfl
 .rw[Nx a,bN,YA]
  have e:(ps.zip l).foldl (fun l z=>Cc M.path (mz z) l) ms=((ps.zip l).map mz).foldl (fun l m=>Cc M.path m l) ms:=by
   rw[Wx]
  rw[e,ZY,EE];have d:(ps.zip l).map (M.path∘mz)=((ps.zip l).map RZ).map En.path:=by rw[EE];rfl
  rw[d,List.map_snd_zip J]
def ya(l:Ae En)(ms:Ae M)(a:Df M.path ms)(d:(l.map En.path).Nodup):Aim l<=Aim (DS ms (l.map Ez)):=by
 have e:=(kO l (BG (Aim l) (0,0)) Bl ms a).1;have q:=(jH (l.map En.path) (ms.map M.path) (Vx (k1:=M.path) (k2:=id) Bl a)).1;rw[<-e]at q;have:=Zx _ _ d q;grind
def VI.put(h:VI V g nx k fs)(hk:k<=700000000)(l:Ae En):∃g' nx',VI (EA V l).1 g' nx' (k+100000) (if(EA V l).2=0 then l.foldl De fs else fs)/\(EA V l).1.D.cap=V.D.cap:=by
 have Cn:∀e:Y,e≠0->∃g' nx',VI (V,e).1 g' nx' (k+100000) (if(V,e).2=0 then l.foldl De fs else fs)/\(V,e).1.D.cap=V.D.cap:=fun e I=>⟨g,nx,by rw[Ag I];exact h.more J,Z⟩;unfold EA;rw[Ag h.live];unfold Ej;by_cases n:FT l≠0
 .rw[Ai n];exact Cn _ n
 rw[Ag n];have f:=lJ (Dm.1 n);unfold NL;by_cases o:¬(l.map En.path).Nodup
 .rw[Ai o];exact Cn _ Bc
 rw[Ag o];have C:=Dm.1 o;unfold LH;by_cases r:16<Aim (DS V.mems (l.map Ez))
 .rw[Ai r];exact Cn _ Bc
 rw[Ag r];unfold NM;by_cases m:(Fzs V.D.cap (BV V.mems) [] l).2≠0
 .rw[Ai m];exact Cn _ m
 rw[Ag m];have x:=Dm.1 m;by_cases d:l=[]
 .subst d;refine⟨g,nx,?_,?_⟩
  .unfold Go.Proofs.YtkmlafmjaeeanaaGreatDoor.putF;rw[Ai Z,Ai Z];exact h.more J
  .rfl
 obtain⟨p,L⟩:=h.arc.ok;obtain⟨j,w,v,K⟩:=lE l [] _ (by rw[List.append_nil];exact p.ext) (Prod.ext Z x:Fzs V.D.cap (BV V.mems) [] l=((Fzs V.D.cap (BV V.mems) [] l).1,0));rw[Ev]at w;rw[w]at K ⊢
 have a:Aim j=Aim l:=by
  have:=Ar DW v;rwa[DQ,DQ]at this
 have t:=ya l V.mems p.rises C;obtain⟨A,y⟩:=kO l j a V.mems p.rises
 have E:Aim (DS V.mems (HJ Dw l j))<=16:=by
  have:=Ar DW (y.trans A.symm);rw[DQ,DQ]at this;omega
 have B:Plac V.D.cap V.mems (j.zip l):=by
  refine⟨by rw[List.map_fst_zip J];omega,fun z q=>f _ (List.of_mem_zip q).2,fun z q=>?_⟩;obtain⟨i,G,rfl⟩:=List.getElem_of_mem q;rw[List.length_zip]at G;have:=Ar (fun l=>l[i]?) v;simp only[DP]at this;rw[BN J,BN J]at this;rw[List.getElem_zip];simpa using this
 obtain⟨S,g',nx',Q,P,N⟩:=h.putF J a B d E J;grind
end
section
variable{V:Vl}{D:Dv}{g nx k:Y}{ms:Ae M}{fs fs':Ae En}
def xy{p:BR}(h:(CO V p).2=0):Cy p=0:=by
 unfold CO at h;grind
def VI.Ahb(h:VI V g nx k fs)(hk:k<=1000000000):∃g' nx',(Dg V 2).2=0/\VI (Dg V 2).1 g' nx' (k+6) fs/\nx'+2<=20/\(Dg V 2).1.mems=V.mems/\(Dg V 2).1.D.cap=V.D.cap:=h.room hk (n:=2) Bl
def VI.delete(h:VI V g nx k fs)(hk:k<=900000000)(p:BR):∃g' nx',VI (Ky V p).1 g' nx' (k+100) (if(Ky V p).2=0 then Fz fs p else fs)/\(Ky V p).1.D.cap=V.D.cap/\((CO V p).2=0->(Ky V p).2=0/\(Ky V p).1.mems=V.mems.filter fun y=>decide (y.path≠p)):=by
 unfold Ky;by_cases q:(CO V p).2=0
 .rw[Ag J];obtain⟨C,r,B,a,A,l,j⟩:=h.Ahb J;rw[Ag J];generalize(Dg V 2).1=R at a l j ⊢;have t:=xy q;obtain⟨e,o⟩:=a.arc.ok
  have f:DS R.mems [⟨2,bare p⟩]=R.mems.filter fun y=>decide (y.path≠p):=by
   rw[Nx e.rises];show NU _ ⟨2,_⟩=_;unfold NU;rfl
  have d:Wal.Good [⟨2,bare p⟩]:=fun n i=>by
   rw[CG]at i;subst i;refine⟨?_,by show 0<=4294967295;decide⟩;unfold CH;rw[Uy,Ai ⟨t,Z⟩];simp
  have:=fj (ns:=[⟨2,_⟩]) (fs':=Fz _ p) a.arc a.at_ a.gen a.next a.good a.sm a.gk (f▸a.files.del p) nofun d J (by
   rw[f];exact⟨BF Bh e.len,fun m v=>e.may m Bh,GS.sublist Bl e.rises,tW e.ext p⟩) (by
   rw[f];exact fun m v=>o m Bh)
  obtain⟨x,w,G,E⟩:=this;rw[Ai x];exact⟨_,_,w.more Bl,J,Bh⟩
 .rw[Ai q];exact⟨g,nx,Ag q▸h.more J,Z,J⟩
def Bt.now{a:Ae Ch}{n:Y}{r:Dv×Y}(b:Bt D a n r)(h0:r.2=0):r.1.now=GB a D.now:=by
 rcases b.out with⟨_,_,_,q,_⟩|⟨q,_⟩
 .omega
 .omega
def fo{t:BR}{a b:Y}(hm:Aim t%512=0)(e:a+Aim t/512<=b∨b+Aim t/512<=a):∀(n i:Y) (D:Dv),i+n=Aim t/512->D.dead=Aj->D.Ok->At D.now a t->b+Aim t/512<=D.cap->Bt D (chs (b+i) ((EG t).drop i)) (2*n) (Nz (a:H) (b:H) n i D)
 |0,i,D,h,hd,_,_,_=>by
  rw[Ot (by rw[Mr];omega)];exact Bt.nil hd
 |n+1,i,D,h,hd,hok,hat,hb=>by
  have hlt:i<Aim t/512:=J;have hh:=hat.has;obtain⟨r1,r2⟩:=Bt.read hd (i:=((a+i:Y):H)) J J;have ea:a+i=((a+i:Y):H):=J;have eb:b+i=((b+i:Y):H):=J;have e1:(D.read ((a+i:Y))).2.2=0:=r2▸Z;have e2:(D.read ((a+i:Y))).2.1=Cb t i:=r2▸hat.sec i hlt;rw[Nz,ea,eb,e1,e2,Ag J];have hEok:(D.read ((a+i:Y))).1.Ok:=lW hok _;have hEnow:(D.read _).1.now=D.now:=r1.now Z;generalize(D.read _).1=E at r1 hEok hEnow ⊢;have hcap:E.cap=D.cap:=r1.cap;have hsl:Aim (Cb t i)=512:=by unfold Cb;rw[BY,CK];omega
  have w:=Bt.write (D:=E) (r1.live Z) (i:=b+i) J hsl
  have m:chs (b+i) ((EG t).drop i)=[.write (b+i) (Cb t i)]++chs (b+(i+1)) ((EG t).drop (i+1)):=by
   have f:i<Aim (EG t):=by rwa[Mr]
   have l:(EG t)[i]=Cb t i:=by
    rw[<-eJ hlt,BX,BN];rfl
   rw[Ds f,l];rfl
  rw[m];by_cases q:(E.write ((b+i:Y)) (Cb t i)).2=0
  .rw[Ag J];have d:=w.now q
   have:=fo hm e n (i+1) _ J (w.live q) (NZ hEok _ _) (by
    rw[d];refine At.up (n:=a+Aim t/512) Bh (bG hEok.nowM hsl _) J fun j o y z=>?_;rw[CX,CG]at z;grind) (by rw[w.cap,hcap];omega)
   exact(r1.trans Z (w.trans q this)).more J
  .rw[Ai q];exact(r1.trans Z (w.stop q _ (Bq _))).more J
def VI.move(h:VI V g nx k fs)(hk:k<=900000000)(p:BR)(d:H):∃g' nx',VI (Hx V p d).1 g' nx' (k+10000) fs/\(Hx V p d).1.D.cap=V.D.cap/\((CO V p).2=0->OkX (BV V.mems++[(d,(CO V p).1.sectors)]) V.D.cap->(Hx V p d).2=0/\(Hx V p d).1.mems=Cc M.path { (CO V p).1 with start:=d } V.mems):=by
 unfold Hx;by_cases q:(CO V p).2≠0
 .rw[Ai q];exact⟨g,_,h.more J,Z,J⟩
 rw[Ag q];replace q:=Dm.1 q;obtain⟨n,W⟩:=kz q;generalize(CO V p).1=m at n W ⊢;by_cases G:¬OkX (BV V.mems++[(d,m.sectors)]) V.D.cap
 .rw[Ai G];exact⟨g,_,h.more J,Z,Bh⟩
 rw[Ag G];replace G:=Dm.1 G;obtain⟨g1,al,r1,w,r3,r4,r5⟩:=h.Ahb J;rw[Ag J];generalize(Dg V 2).1=R at w r4 r5 ⊢;rw[<-r4]at n G ⊢;obtain⟨x,hx,S,i⟩:=w.files.mem n;obtain⟨o,o2⟩:=w.arc.ok;have A:=i.Agy;have ai:=JN i.fits;obtain⟨z,hz⟩:∃z:Xt×En,z=((d,Ca x),x):=Bl;have v:z.2=x:=hz▸Z;have I:z.1=(d,m.sectors):=by rw[hz,A]
 have K:({ m with start:=d })=mz z:=by
  rw[hz];unfold mz;rw[<-S,<-A,<-i.size,<-i.sum]
 have B:Plac R.D.cap R.mems [z]:=by
  refine⟨Bh,fun y Q=>?_,fun y Q=>?_⟩
  .rw[CG.1 Q,v];exact i.fits
  .grind
 have P:z∈[z]:=Bl;obtain⟨p1,p2,p3,p4,p5⟩:=B.z P;rw[v]at p2 p4 p5;rw[I]at p1 p2;have a0:=QU o n;have N:apart (m.start,m.sectors) (d,m.sectors):=(Mb.1 G.far).2.2 _ (QF n) _ (Fa ..);unfold apart at N;have hN:m.sectors.toNat=Aim (Cj x)/512:=J;have b:=fo (t:=Cj x) (a:=m.start.toNat) (b:=d.toNat) ai.1 J (Aim (Cj x)/512) 0 R.D J w.arc.rest.dead w.arc.rest.ok i.at_ J;have e1:((m.start.toNat:Y):H)=m.start:=J;have e2:((d.toNat:Y):H)=d:=J
 have aj:chs (d.toNat+0) ((EG (Cj x)).drop 0)=GG [z]:=by
  rw[Nh,Jv];show _=chs z.1.1.toNat (EG (Cj z.2))++[];rw[List.append_nil,v,I]
 rw[e1,e2,aj,<-hN]at b;have eN:([⟨1,{ m with start:=d }⟩]:Ae Nt)=[z].map fun z=>⟨1,mz z⟩:=by rw[K];rfl
 rw[eN];have eA:DS R.mems ([z].map fun z=>⟨1,mz z⟩)=[z].foldl (fun l z=>Cc M.path (mz z) l) R.mems:=by rw[Nx o.rises,YA]
 have E:(mz z).path=m.path:=by rw[<-K]
 have C:(Cc M.path (mz z) R.mems).map M.path=R.mems.map M.path:=by
  rw[Za,E];exact jv (Vx (k1:=M.path) (k2:=id) Bl o.rises) (Ck.2 ⟨m,n,Z⟩)
 have L:Aim (Cc M.path (mz z) R.mems)<=16:=by
  have:=Ar DW C;rw[DQ,DQ]at this;have:=o.len;omega
 have T:=ML M.path (mz z) o.rises
 have ao:=lT (zs:=[z]) B o o2 T (by
  have:=Yg (m:=mz z) (r:=[]) (cap:=R.D.cap) o.rises (by
   grind)
  grind) (fun m' ab=>by
  rcases(Mz M.path (mz z) o.rises m').1 ab with q|q
  .grind
  .grind) L
 have af:=Vx w.files.keys o.rises
 have:=w.after (fs':=fs) (ns:=[z].map fun z=>⟨1,mz z⟩) b B.wr B.okc (fun j t q=>by
  obtain⟨y,Q,a1,_⟩:=St q
  grind) B.one nofun (jc B) Bh Bh Bh fun D' u hs=>by
   rw[eA];have q:=(B.files o.rises w.files u hs).2.2.1
   have e:([z].map RZ).foldl (fun f x=>Cc En.path x f) fs=fs:=by
    show Cc En.path z.2 fs=fs;rw[v];exact jv af hx
   grind
 obtain⟨a1,a2,a3,a4⟩:=this;refine⟨g1,_,a2.more Bh,a4.trans r5,fun _ _=>⟨a1,?_⟩⟩;grind
def VI.trim(h:VI V g nx k fs):VI (KM V).1 g nx (k+2) fs/\(KM V).1.D.cap=V.D.cap/\(KM V).2=0/\(KM V).1.mems=V.mems:=by
 have w:=gh V;have x:=h.arc.ok.1
 have a:∀m∈V.mems,m.start+m.sectors<=Ff V:=fun m y=>by
  unfold Ff;rw[Ai (SO (g:=0) x Bc).chk.ext];exact(Ya _).2 _ (QF y)
 unfold KM;rw[Ag h.live];split
 .exact⟨h.more J,Z,Z,Z⟩
 rename_i i;have f:=h.arc.rest;have n:=f.ok.now;obtain⟨e,he⟩:∃e:Y,Ff V=(e:H):=⟨(Ff V).toNat,J⟩;rw[he]at i w a ⊢
 have C:V.D.cut e=V.D.Agi (X (.cut e)):=by
  unfold Dv.cut;rw[Ag (by rw[f.dead];decide),Ag J];rfl
 rw[C];have b:=Bt.Agi f.dead (.cut e);have s:=Sy.of f b;have z:=s.zero h.at_;generalize V.D.Agi _=c at b s z ⊢;obtain⟨E,d⟩:=c
 have A:d=0:=by
  by_cases q:d=0
  .omega
  .grind
 subst A;rw[Ai Z]at s z;obtain⟨v,r⟩:=s.live f (fun c B=>by rw[CG.1 B];show e<=V.D.cap;omega) z;have l:E.sync.1.now=V.D.now.take _:=r;have o:min (Aim V.D.now) (e*512)=e*512:=J;have p:Aim E.sync.1.now=e*512:=by rw[l,BY];omega
 have u:Upn e (fun _ _=>False) V.D.now E.sync.1.now:=⟨J,fun j G=>.inl ⟨J,by
  rw[l];unfold Cb;rw[Wu,WL,Hq J]⟩⟩
 refine⟨⟨h.arc.up v s.cap u J Bl,h.files.up u a (fun m _ j _ _ t q=>q),h.gen,h.next,?_,PD s h.at_,s.sm h.sm,by have:=h.gk;omega⟩,s.cap,z,Z⟩;rw[h.good,z];rfl
inductive Lim(c K:Y):Ae M->Y->Prop
 |nil {k:Y}:k+2<=K->Lim c K [] k
 |cons {m:M} {L:Ae M} {k:Y}:k+c<=K->Lim c K L (k+c)->Lim c K (m::L) k
def jP{c K:Y}:∀(L:Ae M) (k:Y),k+c*Aim L+2<=K->Lim c K L k
 |[],k,h=>.nil J
 |m::L,k,h=>by
  have e:k+c*Aim (m::L)+2=k+c+c*Aim L+2:=by
   rw[Cv,Nat.mul_add_one,RU _ c,No k c]
  rw[e]at h;exact .cons J (jP L _ h)
def VI.comp{K:Y}(y:K<=800000000){L:Ae M}{k:Y}(hL:Lim 20000 K L k):∀{V:Vl} {g nx:Y} {a:H},VI V g nx k fs->∃g' nx',VI (Kw V a L).1 g' nx' K fs/\(Kw V a L).1.D.cap=V.D.cap:=by
 induction hL with
 |nil hk=>
  intro V g nx a h;obtain⟨x,w,_⟩:=h.trim;exact⟨g,_,x.more hk,w⟩
 |@cons m L k hk _ ih=>
  intro V g nx a h;have l:k+10000<=k+20000:=J;have q:k+10000<=900000000:=J;have r:k<=900000000:=J;have n:k<=k+10000:=J
  have e:∃g' nx',VI (Ih V a m).1 g' nx' (k+10000) fs/\(Ih V a m).1.D.cap=V.D.cap:=by
   unfold Ih;split
   .split
    .exact⟨g,_,h.more n,Z⟩
    .obtain⟨g',nx',d,f,_⟩:=h.move r m.path (ER (BV V.mems) V.D.cap m.sectors).1;grind
   .exact⟨g,_,h.more n,Z⟩
  have i:∃g' nx',VI (Mw (Ih V a m) a m).1 g' nx' (k+20000) fs/\(Mw (Ih V a m) a m).1.D.cap=V.D.cap:=by
   obtain⟨p,j,d,f⟩:=e;unfold Mw;split
   .exact⟨_,_,d.more l,f⟩
   .split
    .obtain⟨g',nx',v,t,_⟩:=d.move q m.path a;grind
    .exact⟨_,_,d.more l,f⟩
  obtain⟨p,j,d,f⟩:=i;unfold Kw;split
  .exact⟨_,_,d.more hk,f⟩
  .obtain⟨A,o,v,t⟩:=ih (a:=a+m.sectors) d;grind
def VI.Aid(h:VI V g nx k fs)(hk:k<=700000000){L:Ae M}(hL:Aim L<=16):∃g' nx',VI (Kx V L).1 g' nx' (k+400000) fs/\(Kx V L).1.D.cap=V.D.cap:=by
 unfold Kx;split
 .exact⟨g,_,h.more J,Z⟩
 .exact VI.comp J (jP L k J) h
def yD(h:RY D.now g):FL D (1-g%2)=Aa∨∃b,FL D (1-g%2)=X b/\b.1<(g:H):=by
 obtain⟨k,hk⟩:∃k,k=1-g%2:=Bl;unfold RY at h;rw[<-hk]at h ⊢;by_cases a:Right D k
 .right
  have f:=MX fun z=>by
   have:=a.dec;rw[UA z]at this;grind
  have l:=a.has;unfold Fv at l;have d:=aD D k;have q:=lf f (i:=0) (by rw[d];decide);have e:(CT D k)[0]'(by rw[d];decide)=Cb D.now (k*5+0):=by simp[CT]
  rw[e]at q
  have m:Es (CT D k)<(g:H):=by
   rcases h 0 Bc J with j|j
   .omega
   .omega
  refine⟨((CL (CT D k)).1,(CL (CT D k)).2.1),?_,?_⟩
  .unfold FL;grind
  .rw[Su f];omega
 .left;unfold FL;grind
def rk{k:Y}(hk:k<2){a:H×Ae M}(h1:FL D k=X a)(h2:FL D (1-k)=Aa∨∃b,FL D (1-k)=X b/\b.1<a.1)(e:D.dead=Aj):Hw D=(a.1,a.2,0):=by
 unfold Hw;rw[Ag Bh];rcases(show k=0∨k=1 by omega)with rfl|rfl
 .rw[h1];rcases h2 with h2|⟨b,h2,d⟩
  .rw[h2];rfl
  .rw[h2];exact Ai d
 .rw[h1];rcases h2 with h2|⟨b,h2,d⟩
  .rw[h2];rfl
  .rw[h2];exact Ag J
def yp{l:Ae M}{cap:H}(h:OkC l cap)(hs:Km l):MsOk l:=⟨fun m hm=>Yl ⟨h.may m hm,hs m hm⟩,by have:=h.len;omega,fun m hm=>by have:=(JO (h.may m hm)).1;omega⟩
def uN{ns:Ae Nt}(h:Wal.Good ns):∀n∈ns,n.mem.Ok/\Aim n.mem.path<=2000000:=fun n d=>by
 obtain⟨a,b⟩:=h n d
 have e:=by
  unfold CH IW at a;split at a
  .split at a
   .rename_i q;exact(JO q).1
   .exact AK Z a
  .split at a
   .split at a
    .rename_i q;exact Xv q.1
    .exact AK Z a
   .exact AK Z a
 exact⟨⟨J,b⟩,J⟩
def Arc.found(h:Arc D g nx ms)(y:g<4611686018427387904):Finds D g ms (FZ (DG D) g):=by
 obtain⟨o,a,n,d,rfl,f⟩:=h.made;have r:=rk J n.Aie (yD h.oth) h.rest.dead
 have v:DG D=DI D (MB D):=by
  unfold DG;rw[Ag (by rw[h.rest.dead];decide)]
 have w:=by
  have:∀a,Aim a<=ED a:=fun a=>by
   induction a with
   |nil=>simp
   |cons l a ih=>rw[PH,Cv];omega
  exact this a
 have t:=d.le;have m:=d.tot;refine .some (nx:=nx) r ?_ J J (fun i e=>⟨yp (f i e).1 (f i e).2,fun _=>Si (f i e).1⟩) (fun j p=>⟨?_,uN (d.good _ p).1⟩) J
 .unfold JP;rw[Ag (by unfold JC;omega),v,Ag (by show ¬D.dead=Af;rw[h.rest.dead];decide)];exact Ar (fun x=>(x,0)) (d.replay n.gen)
 .have:∀(a:Ae _),j∈a->Aim j<=ED a:=fun a=>by
   induction a with
   |nil=>simp
   |cons l a ih=>
    intro q;rw[PH];grind
  grind
def Arc.calls{D':Dv}(h:Arc D g nx ms)(e:∃c,D'={ D with calls:=c }):Arc D' g nx ms:=by
 obtain⟨c,rfl⟩:=e;exact⟨⟨⟨h.rest.ok.cap,h.rest.ok.kept,h.rest.ok.now,h.rest.ok.keptM,h.rest.ok.nowM,h.rest.ok.pend⟩,h.rest.dead,h.rest.pend,h.rest.kept⟩,h.cap,h.made,h.oth⟩
def uz(a:D.dead=Aj)(g:H):∃c,FZ (DG D) g={ D with calls:=c }:=by
 unfold DG;rw[Ag Bh];exact⟨_,Z⟩
def Arc.opened(h:Arc D g nx ms)(q:D.at_=0)(hf:Fil D ms fs)(n:Sm D k)(p:g+1<=k+40)(hk:k<=900000000):
 (DJ (FZ (DG D) g) ((g:H)+1) ms).2=0/\VI ⟨(DJ (FZ (DG D) g) ((g:H)+1) ms).1,(g:H)+1,0,ms,Aj⟩ (g+1) 0 (k+40) fs/\(DJ (FZ (DG D) g) ((g:H)+1) ms).1.cap=D.cap:=by
 have i:=(h.found J).dev h.rest.ok n;obtain⟨c,m⟩:=uz h.rest.dead (g:H);have l:=h.calls ⟨c,m⟩;have f:(FZ (DG D) g).at_=0:=m▸q;have j:Fil (FZ _ g) _ _:=hf.same (by rw[m]);have d:(FZ (DG D) g).cap=D.cap:=m▸Z;generalize FZ _ g=E at i l f j d ⊢;have e:g+1=((g+1:Y):H):=J;have r:=l.cap;have o:=l.ok.1;have b:=au (g:=g+1) l.rest (SO o J) o J;have z:=b.zero f;obtain⟨a,u⟩:=l.saved J b z;exact⟨z,⟨a,UV j o u J,Z,Z,Z,PD b f,(b.sm i.2).more J,p⟩,b.cap.trans d⟩
def xN{n:Y}(E:31<=n/\n<=4096):Finds (fresh n []) (-1) [] (DG (fresh n []))/\(DJ (DG (fresh n [])) (-1+1) []).2=0/\VI ⟨(DJ (DG (fresh n [])) (-1+1) []).1,-1+1,0,[],Aj⟩ 0 0 10 []/\(DJ (DG (fresh n [])) (-1+1) []).1.cap=n:=by
 have o:Cat.Rest (fresh n []):=⟨gU J Bl Bl,Z,Z,Z⟩
 have a:∀k,¬Fv (fresh n []) k:=fun k h=>by
  unfold Fv at h;have:(fresh n []).now.length/512=0:=Nat.zero_div 512;omega
 have f:(fresh n []).dead=Aj:=rfl
 have d:Hw (fresh n [])=(0,[],230):=by
  unfold Hw;have e:∀k,FL _ k=Aa:=fun k=>Ag fun q=>a k q.has;rw[e,e];rfl
 have y:DG (fresh n [])=fresh n []:=by
  unfold DG MB;rw[Ag (by rw[f];simp),Ag (a 0),Ag (a 1)];rfl
 have G:(-1+1)=((0:Y):H):=by decide
 have w:Finds _ _ _ _:=.none (by rw[d]) (by rw[d]) (by show(0)/512<=5;decide);rw[y]at w;rw[y,G];have p:OkC [] (n:H):=⟨Bc,Bl,GS.nil,⟨J,by simp[BV],GS.nil⟩⟩;have x:Km []:=fun m K=>by grind
 have b:=au (g:=0) o (SO p Bc) p (by show 10<=n;omega);have z:=b.zero Z;have j:∀t∈EK ((0:Y)) (Ci []),Aim t=512:=VA _;have C:=Rx _ (0%2*5) j;obtain⟨B,A⟩:=b.live o (Us j (by show 0+5<=n;omega)) z;have I:∀i,i<5->(0%2*5+i+1)*512<=(DJ _ _ _).1.now.length/\Cb _ _=JS _ _ i:=fun i v=>b.has o C z XA (js v)
 have r:(DJ (fresh n []) ((0:Y):H) []).1.now.length=2560:=by
  rw[A,dF,dE _ _ _ j Z,Ag (fun e=>by have:=Ar DW e;rw[IA]at this;grind),IA];rfl
 refine⟨w,z,⟨⟨B,by rw[b.cap];exact E.1,⟨[],[],⟨Bh,Bh,Bc,by rwa[b.cap],x⟩,⟨fun l d=>by grind,Z,Bc,J,J,fun k _ _ h=>?_⟩,Z,fun i _=>by rw[List.take_nil,b.cap];exact⟨p,x⟩⟩,fun i v h=>?_⟩,.nil,Z,Z,Z,PD b Z,(b.sm (k:=0) ⟨by simp[fresh],by simp[fresh],by simp[fresh],by simp[fresh]⟩).more Bc,J⟩,b.cap⟩
 .grind
 .grind
def Arc.fill(h:Arc D g nx ms)(l:D.at_=0)(hf:Fil D ms fs)(f:Sm D k){i:Y}(hi:i<5){t:BR}(ht:Aim t=512)(r:Kh g t):
 ∃E,D.write (((1-g%2)*5+i:Y):H) t=(E,0)/\E.Ok/\Sm E (k+1)/\E.sync.2=0/\Arc E.sync.1 g nx ms/\Fil E.sync.1 ms fs/\E.sync.1.at_=0/\Sm E.sync.1 (k+2)/\E.sync.1.cap=D.cap:=by
 have m:=h.rest;have v:=h.cap;have b:=Bt.write m.dead (i:=(1-g%2)*5+i) J ht;have s:=Sy.of m b;have z:=s.zero l;have e:=NZ m.ok (((1-g%2)*5+i:Y)) t;have a:=PM f (((1-g%2)*5+i:Y)) t;generalize D.write _ t=c at b s z e a ⊢;obtain⟨E,d⟩:=c
 have G:d=0:=by
  by_cases q:d=0
  .omega
  .grind
 subst G;rw[Ai Z]at s z
 have B:Wr [Ch.write ((1-g%2)*5+i) t]:=fun c w=>by
  grind
 have C:∀j y,CX [Ch.write ((1-g%2)*5+i) t] j y->j=(1-g%2)*5+i/\y=t:=fun j y q=>by
  rw[CX,CG]at q;grind
 obtain⟨u,_⟩:=s.up m B 4096;obtain⟨A,_⟩:=s.live m (fun c w=>by rw[CG.1 w];exact⟨J,ht⟩) z;obtain⟨o,x,n,K,I,P⟩:=h.made;have N:=n.has;have p:∀i,i<5->g%2*5+i<Aim E.sync.1.now/512/\Cb E.sync.1.now _=Cb _ _:=fun i hi=>u.keep J J Bh;have L:=(p 4 Bc).1;refine⟨E,Z,e,a,z,⟨A,by rw[s.cap];omega,⟨o,x,⟨J,fun i hi=>(p i hi).2.trans (n.sec i hi),n.gen,by rw[s.cap];exact n.chk,n.sums⟩,K.up u Bc Bh,I,by rw[s.cap];omega⟩,h.oth.up u Bh⟩,UV hf h.ok.1 u Bh,PD s l,(s.sm f).more J,s.cap⟩
def VI.calls(h:VI V g nx k fs)(n:Y):VI { V with D:=DI V.D n } g nx (k+n) fs:=
 ⟨h.arc.calls ⟨_,Z⟩,h.files.same Z,h.gen,h.next,h.good,h.at_,Vu h.sm n,by have:=h.gk;omega⟩
def VI.Agt(h:VI V g nx k fs){i:Y}(hi:i<Aim V.mems):CO V V.mems[i].path=(V.mems[i],0):=by
 obtain⟨a,l⟩:=h.arc.ok;have d:=a.may _ (BM hi);unfold CO;rw[Ag h.live,Ag (fun q=>q d.1)]
 have e:V.mems.find? (fun m=>decide (m.path=V.mems[i].path))=X V.mems[i]:=by
  cases hf:V.mems.find? (fun m=>decide (m.path=V.mems[i].path))with
  |none=>
   rw[List.find?_eq_none]at hf;exact AK Bl (hf _ (BM hi))
  |some m=>
   have j:=List.mem_of_find?_eq_some hf;have f:m.path=V.mems[i].path:=by simpa using Bh
   rw[mq a.rises j Bl f]
 rw[e]
end
end
section
attribute [local irreducible] OW KW QW EX GW NV
open Pth Rec Srt Dsk Wal Cat Tar
section
variable{w w':Ad}{B vb db:Y}{V:Vl}{g nx k:Y}{fs:Ae En}
def tL{x y:En}(h1:x.path=y.path)(h2:x.data=y.data):x=y:=by
 cases x;simp_all
def jl(h:VAt w B vb db V)(hv:VI V g nx k fs)(hk:k<=700000000)(ai:∀w',Tm w w' B vty->Env w')(l:Ae En)(hl:Aim l<=1000000)(A:Av AC)(c:Y)(S:∀w',Tm w w' B vty->∃C,Sl w' C A (DN l))(bs:B<=w.heap.size):
 Bn prog 16 [.pointer (X ⟨vb,0,Aa⟩),.agg #[.slice A (Aim l) c]] w fun v w'=>v=.bool (decide (fs=l))/\(∃n,n<=100000/\VAt w' B vb db { V with D:=DI V.D n })/\Tm w w' B vty:=by
 obtain⟨o1,o2⟩:=hv.arc.ok;have bj:=o1.len;have bx:=hv.files.len;refine Bw func16 Z ntmps16 Be Z ?_;refine(O 2) ?_;refine DB Z Z Z ?_;rintro mb w1 bm bb I;refine(O 5∘Zc (vP (h.ext I) J)) ?_;rintro _ w2⟨f,G⟩;obtain⟨A2,c2,rfl,_,bi⟩:=f.slice;refine(O 8) ?_;have h2:=(h.ext I).ext G;have ba:=bb.ext G;have L:Tm w w2 B vty:=Tm.Age (I.trans G) _ _;refine(O 4)<|Zi (fun a6=>?_) fun a6=>?_
 .refine(O 4∘Bu) ?_;refine⟨?_,⟨0,Bc,h2⟩,L⟩;rw[AN (fun e=>by grind)]
 .refine(O 7)<|Lo (fun((i,n,wr):Y×Y×Ad)=>(i<=Aim l/\fs.take i=l.take i/\n<=5000*i/\VAt wr B vb db { V with D:=DI V.D n }/\Tm w2 wr B vty,[(0,.pointer (X ⟨vb,0,Aa⟩)),(3,.pointer (X ⟨mb,0,Aa⟩)),(5,.slice A2 (Aim V.mems) c2),(6,U i)],wr,Aim l-i)) (0,0,w2) ?_ ?_
  .exact⟨BD _,Z,BD _,h2,Tm.refl _ _ _⟩
  .rintro⟨i,n,wr⟩⟨hi,P,hn,N,tr⟩;refine(O 8)<|Zi (fun a9=>?_) fun a9=>?_
   .have q:i<Aim V.mems:=J;have af:i<Aim fs:=J;have r:i<Aim l:=J;have W:i<Aim (V.mems.map M.path):=by rw[DQ];exact q
    have p:=hv.calls n;have E:=p.Agt q;obtain⟨T,Q⟩:=p.files.at_ q af;have a7:=QU o1 (BM q);have aj:fs.take (i+1)=fs.take i++[fs[i]]:=(CR af).symm;have ab:l.take (i+1)=l.take i++[l[i]]:=(CR r).symm;have j:fs=l->fs[i]=l[i]:=fun e=>by grind
    obtain⟨_,_,eA,_,a0⟩:=(tr.own f Bc).slice;cases eA;obtain⟨b,o,rfl,_,a⟩:=VS a0 W;obtain⟨_,a5⟩:=S w (Tm.refl _ _ _);obtain⟨bl,ol,rfl,_,_⟩:=a5.flat (l:=l) (i:=i) (c:=2) (fun _=>rfl) Bc r;rw[Ou]at a;have tw:=L.trans tr;generalize a8:V.mems[i]=m at a E T Q a7;generalize bq:fs[i]=x at T Q aj j;refine(O 9∘Zv (BZ a)∘Zc (gm N p.ok J (ai _ tw) (fun w' t=>ai _ (tw.trans t)) m.path x.data m E (by simp_all) p.live)) ?_;rintro _ w3⟨rfl,h3,t3⟩;refine(O 7) ?_;have d:=tr.trans t3;obtain⟨_,_,bh,_,a3⟩:=(d.own f Bc).slice;cases bh;obtain⟨b3,o3,bf,_,al⟩:=VS a3 W;cases bf;rw[Ou,a8]at al;obtain⟨_,a4⟩:=S w3 (L.trans d);obtain⟨b0,bn,bc,_,K⟩:=a4.flat (l:=l) (i:=i) (c:=2) (fun _=>rfl) Bc r;cases bc;have ao:=d.bk ba Bc;generalize l[i]=y at ab j K;refine(O 4∘Zq (by exact fun _=>BZ al)∘O 1∘Zq (by exact fun _=>Bo ao)∘O 3∘Zq (by exact fun _=>BZ (K 0 _ Z))∘O 2)<|Nw 43 (fun a1=>?_) fun a1=>?_
    .refine(O 13∘QW.nil) fun nq=>(O 5∘Bu) ?_;refine⟨?_,⟨n+m.sectors.toNat,J,?_⟩,L.trans (d.trans (Tm.Age (Bf.drewN _ _) _ _))⟩
     .rw[AN (fun e=>a1 Bh)]
     .rw[<-Vt];exact h3.ext (Bf.drewN _ _)
    .refine(O 4∘Zqf 47∘O 2∘Zq (by exact fun _=>Bo ao)∘O 3∘Zq (by exact fun _=>BZ (K 1 _ Z))∘O 2∘QW.nil) fun nq=>Zi (fun a2=>?_) fun a2=>?_
     .refine(O 4∘Bu) ?_;refine⟨?_,⟨n+m.sectors.toNat,J,?_⟩,L.trans (d.trans (Tm.Age (Bf.drewN _ _) _ _))⟩
      .rw[AN (fun e=>a2 Bh)]
      .rw[<-Vt];exact h3.ext (Bf.drewN _ _)
     .refine(O 7)<|Lb ((i+1),(n+m.sectors.toNat),(w3.drewN nq)) ?_;refine⟨r,?_,J,?_,d.trans (Tm.Age (Bf.drewN _ _) _ _)⟩
      .rw[aj,ab,P,show x=y from tL Bh (Dm.1 a2)]
      .rw[<-Vt];exact h3.ext (Bf.drewN _ _)
   .obtain rfl:i=Aim l:=J;rw[DA J,DA (Bq _)]at P;refine(O 5∘Bu) ?_;exact⟨Bh,⟨n,J,N⟩,L.trans tr⟩
end
structure Ta where
 kind:H
 path:Bg
 content:Bg
 tow:H
 files:Ae En
 fA:Av AC
 fc:Y
 fa:H
 ks:Ae Aw
 kA:Av AC
 kk:Y
def Ta.cells(a:Ta):Bm:=[U a.kind,Bj a.path,Bj a.content,U a.tow,.slice a.fA (Aim a.files) a.fc,U a.fa,.slice a.kA (Aim a.ks) a.kk]
abbrev aT(l:Ae Ta):Bm:=l.flatMap Ta.cells
structure Ta.Ok(a:Ta):Prop where
 tow:-9223372036854775808<=a.tow/\a.tow<=9223372036854775807
 fa:-9223372036854775808<=a.fa/\a.fa<=9223372036854775807
 nil:a.kA=Aa->Lp a.ks=[]
 klen:Aim a.ks<=140737488351232
structure Ta.Few(a:Ta)(most:H):Prop where
 path:Aim a.path<=200
 files:Aim a.files<=20
 content:200+min (Aim a.content:H) 20000<=most
 each:∀x∈a.files,Aim x.path<=200/\100+min (Aim x.data:H) 20000<=most
def HO(l:Ae En)(a:Ta):Ae En:=if a.kind=0 then De l ⟨a.path,a.content⟩else if a.kind=1 then Fz l a.path else if a.kind=5 then a.files.foldl De l else l
section
variable{w w':Ad}
def gH{α:Type}{cells:α->Bm}{c C:Y}{A:Av AC}{l:Ae α}(d:Sl w C A (l.flatMap cells))(f:∀a,Aim (cells a)=c)(h0:0<c){i:Y}(hi:i<Aim l):
 ∃b o,A=X ⟨b,o,Aa⟩/\∀j u,(cells l[i])[j]? =X u->w.cell? ⟨b,o+i*c+j,Aa⟩=X u:=by
 obtain⟨b,o,e,_,h⟩:=d.flat f h0 hi;grind
def few_s(d:Ae Ta)(most:H)(hm:0<=most/\most<=100000)(A:Av AC)(c C:Y)(w:Ad)(T:Sl w C A (aT d))(hl:Aim d<=140737488355328)(D:∀a∈d,∃C',Sl w C' a.fA (DN a.files)/\Aim a.files<=140737488355328)(hsz:∀a∈d,Aim a.path<=140737488355328/\Aim a.content<=140737488355328/\∀x∈a.files,Aim x.path<=140737488355328/\Aim x.data<=140737488355328):
 Bn prog 6 [.slice A (Aim d) c,U most] w fun v w'=>(∃b,v=.bool b/\(b=Af->200*(Aim d:H)<=most/\∀a∈d,a.Few most))/\w=w':=by
 refine Bw func6 Z ntmps6 (by rfl) Z ?_;refine(O 14)<|Lo (fun((i,n):Y×H)=>((i<=Aim d/\200*(i:H)<=n/\n<=most/\∀a∈d.take i,a.Few most),[(0,.slice A (Aim d) c),(1,U (most:H)),(5,U (n:H)),(6,U i)],w,Aim d-i)) (0,0) ?_ ?_
 .grind
 .rintro⟨i,n⟩⟨hi,ab,W,r⟩;refine(O 8)<|Zi (fun f=>?_) fun f=>?_
  .obtain⟨b,o,rfl,e⟩:=gH T (fun _=>rfl) (by decide:0<7) f;have m:d.take (i+1)=d.take i++[d[i]]:=(CR f).symm;obtain⟨C',p,E⟩:=D _ (BM f);obtain⟨P,N,G⟩:=hsz _ (BM f);generalize d[i]=a at e m p E P N G;refine(O 10∘Zv (BZ (e 2 _ Z))∘O 13∘Zv (BZ (e 1 _ Z))∘O 3)<|Zd 31 (fun a1=>?_) fun a1=>?_
   .refine(O 19∘Bu) ?_;exact⟨⟨Aj,Z,nofun⟩,Z⟩
   .refine(O 4∘Zv (BZ (e 4 _ Z))∘O 4)<|Zd 40 (fun a2=>?_) fun a2=>?_
    .refine(O 10∘Bu) ?_;exact⟨⟨Aj,Z,nofun⟩,Z⟩
    .refine(O 5)<|Zi (fun a3=>?_) fun a3=>?_
     .refine(O 4∘Bu) ?_;exact⟨⟨Aj,Z,nofun⟩,Z⟩
     .refine(O 6)<|Lo (fun((k,q):Y×H)=>((k<=Aim a.files/\200*(i:H)+200<=q/\q<=most/\∀x∈a.files.take k,Aim x.path<=200/\100+min (Aim x.data:H) 20000<=most),[(0,.slice (X ⟨b,o,Aa⟩) (Aim d) c),(1,U (most:H)),(5,U (q:H)),(6,U i),(7,U k)],w,Aim a.files-k)) (0,(n+((200+min (Aim a.content) 20000:Y):H))) ?_ ?_
      .grind
      .rintro⟨k,q⟩⟨hk,V,B,K⟩;refine(O 8∘Zv (BZ (e 4 _ Z))∘O 3)<|Zi (fun g=>?_) fun g=>?_
       .obtain⟨L,o2,e2,j⟩:=gH p (fun _=>rfl) (by decide:0<2) g;have t:a.files.take (k+1)=a.files.take k++[a.files[k]]:=(CR g).symm;obtain⟨S,Q⟩:=G _ (BM g);generalize a.files[k]=x at j t S Q;have l:=e 4 _ Z;rw[e2]at l;refine(O 10∘Zv (BZ l)∘O 3∘Zv (BZ (j 1 _ Z))∘O 12∘Zv (BZ l)∘O 3∘Zv (BZ (j 0 _ Z))∘O 3)<|Zd 80 (fun b1=>?_) fun b1=>?_
        .refine(O 10∘Bu) ?_;exact⟨⟨Aj,Z,nofun⟩,Z⟩
        .refine(O 5)<|Zi (fun L=>?_) fun L=>?_
         .refine(O 4∘Bu) ?_;exact⟨⟨Aj,Z,nofun⟩,Z⟩
         .refine(O 7)<|Lb ((k+1),(q+((100+min (Aim x.data) 20000:Y):H))) ?_;grind
       .obtain rfl:k=Aim a.files:=J;rw[DA (Bq _)]at K;refine(O 7)<|Lb ((i+1),q) ?_;refine⟨f,J,B,fun y I=>?_⟩;rw[m]at I;rcases Dz.1 I with h|h
        .grind
        .rw[CG.1 h];exact⟨J,J,J,K⟩
  .obtain rfl:i=Aim d:=J;rw[DA (Bq _)]at r;refine(O 5∘Bu) ?_;grind
def Aeo(n:H)(h0:-9223372036854775808<=n)(h1:n<=9223372036854775807)(w:Ad):Bn prog 9 [U n,U 200] w fun v w'=>(∃c:Y,v=U (c:H)/\31<=c/\c<=230)/\w=w':=by
 have f:(n.tmod 200).natAbs<200:=by rw[Int.natAbs_tmod];exact Kk _ Bc
 have a:0<=n.tmod 200+200:=J;have e:((n.tmod 200+200).tmod 200).natAbs<200:=by rw[Int.natAbs_tmod];exact Kk _ Bc
 have d:0<=(n.tmod 200+200).tmod 200:=Int.tmod_nonneg _ a;refine Bw func9 Z ntmps9 (by rfl) Z ?_;refine(O 16∘Bu) ?_;exact⟨⟨(31+((n.tmod 200+200).tmod 200)).toNat,Ar (Value.int .i64) J,J,J⟩,Z⟩
def Afi(l:Ae En)(x:En):Aim (De l x)<=Aim l+1/\∀y∈De l x,y∈l∨y=x:=by
 have f:∀(l:Ae En) (r:Ae En×Aw),Aim (l.foldl (GL x) r).1+(!(l.foldl (GL x) r).2).toNat<=Aim r.1+(!r.2).toNat+Aim l/\∀y∈(l.foldl (GL x) r).1,y∈r.1∨y∈l∨y=x:=fun l=>by
  induction l with
  |nil=>grind
  |cons z l ih=>
   intro r;obtain⟨n,m⟩:=ih (GL x r z)
   have k:Aim (GL x r z).1+(!(GL x r z).2).toNat<=Aim r.1+(!r.2).toNat+1/\∀y∈(GL x r z).1,y∈r.1∨y=z∨y=x:=by
    obtain⟨o,d⟩:=r;unfold GL;refine⟨?_,fun y a=>?_⟩
    .cases d<;>by_cases j:FX x.path z.path<=0<;>by_cases i:FX x.path z.path=0<;>simp[j,i]<;>omega
    .simp only[Dz]at a;rcases a with(a|a)|a
     .grind
     .grind
     .grind
   refine⟨?_,fun y a=>?_⟩
   .grind
   .grind
 obtain⟨h,g⟩:=f l ([],Aj);have e:l.foldl (GL x) ([],Aj)=ET x l:=rfl;rw[e]at h g;unfold De;grind
def act_f{d b o:Y}{a:Ta}(h:Bk w d 40 a.cells)(e:a.fA=X ⟨b,o,Aa⟩):w.cell? ⟨d,4,Aa⟩=X (.slice (X ⟨b,o,Aa⟩) (Aim a.files) a.fc):=by
 rw[<-e];exact h.cell_of Z
structure GoS(w w':Ad)(ab rb mb:Y)(a:Ta):Prop where
 x:Bf w w'
 act:Bk w' ab 40 a.cells
 r:Bk w' rb 33 [.slice Aa 0 0]
 m:∃q,Bk w' mb 33 [q]
def GoS.ext{w a b:Ad}{ab rb mb:Y}{t:Ta}(h:GoS w a ab rb mb t)(hx:Bf a b):GoS w b ab rb mb t:=⟨h.x.trans hx,h.act.ext hx,h.r.ext hx,h.m.imp fun _ q=>q.ext hx⟩
def GoS.put{w a b:Ad}{ab rb mb:Y}{t:Ta}{u:Ah}(h:GoS w a ab rb mb t)(hm:Mo a b [mb])(hb:Bk b mb 33 [u])(n1:ab≠mb)(n2:rb≠mb)(hz:w.heap.size<=mb):GoS w b ab rb mb t:=
 ⟨Bv h.x hm h.x.size (fun k hk=>by grind),h.act.mo hm Bh,h.r.mo hm Bh,u,hb⟩
def uL(l:Ae En)(hl:Aim l<=1000)(bb:∀y∈l,Aim y.path<=2000)(a:Ta)(bf:Aim a.path<=2000)(bh:Aim a.files<=20)(a5:∀x∈a.files,Aim x.path<=2000)(u:Ah)(w:Ad)(hG:DR w)(ho:Bp w 0 64 2 u (Aim l) (DN l))(C:Y)(a3:Sl w C a.fA (DN a.files)):
 Bn prog 11 [.agg #[u],.agg a.cells.toArray] w fun v w'=>(∃u',v=.agg #[u']/\Bp w' 0 64 2 u' (Aim (HO l a)) (DN (HO l a)))/\Bf w w':=by
 obtain⟨A,c,rfl,_,a2⟩:=ho.slice;refine Bw func11 Z ntmps11 Be Z ?_;refine(O 2) ?_;refine DB Z Z Z ?_;rintro P w1 ba al af;refine DB Z Z Z ?_;rintro V w2 a9 L S;refine(Zn) ?_;rintro rb w3 a8 q Q;refine(O 5) ?_;replace L:Bk w2 V 40 a.cells:=L;have K:=(al.ext S).ext Q;have a6:=L.ext Q;have E:=(af.trans S).trans Q;have l1:=al.lt;have l2:=L.lt;have z1:=af.size;have z2:=S.size;have ai:=a2.ext E;refine(O 8)<|Zi (fun c0=>?_) fun c0=>?_
 .refine(O 2∘Zv (Cf K)∘O 5∘Zc (oP l J ⟨a.path,a.content⟩ A c _ w3 (hG.ext E) Bh (fun y hy=>by grind) ai)) ?_;rintro _ w4⟨W,rfl,g,f⟩;refine(Zs (q.ext f) (hlt:=Bq _)) ?_;rintro w5 m d;refine(O 1∘Kn m) ?_;have e:HO l a=De l ⟨a.path,a.content⟩:=Ai c0;rw[e]
  exact⟨⟨W,Z,Bp.base (Bp.mo g d fun k n=>by
   obtain⟨_,l',o⟩:=g.blkT k n;simpa using o.ne (q.ext f) Bc) fun k n=>BD _⟩,Bv (E.trans f) d (E.trans f).size (fun k n=>by simp at n;omega)⟩
 .refine(O 5)<|Zi (fun c1=>?_) fun c1=>?_
  .refine(O 2∘Zv (Cf K)∘O 2∘Zc (Afj l J a.path A c _ w3 ai)) ?_;rintro _ w4⟨W,rfl,g,f⟩;refine(Zs (q.ext f) (hlt:=Bq _)) ?_;rintro w5 m d;refine(O 1∘Kn m) ?_;have e:HO l a=Fz l a.path:=(Ag c0).trans (Ai c1);rw[e]
   exact⟨⟨W,Z,Bp.base (Bp.mo g d fun k n=>by
    obtain⟨_,l',o⟩:=g.blkT k n;simpa using o.ne (q.ext f) Bc) fun k n=>BD _⟩,Bv (E.trans f) d (E.trans f).size (fun k n=>by simp at n;omega)⟩
  .refine(O 5)<|Zi (fun c5=>?_) fun c5=>?_
   .have I:∀i,i<=Aim a.files->Aim ((a.files.take i).foldl De l)<=1000+i/\∀y∈(a.files.take i).foldl De l,Aim y.path<=2000:=fun i=>by
     induction i with
     |zero=>grind
     |succ i ih=>
      intro h;obtain⟨i1,i2⟩:=ih J;rw[(CR (show i<Aim a.files by omega)).symm,Qd];have hw:=Afi ((a.files.take i).foldl De l) a.files[i];grind
    have e5:HO l a=a.files.foldl De l:=(Ag c0).trans ((Ag c1).trans (Ai c5));have a0:V≠P:=J;have ao:rb≠P:=by have:=q.lt;omega
    refine(O 5)<|Lo (fun((i,u1,wr):Y×Ah×Ad)=>(i<=Aim a.files/\Bk wr P 33 [u1]/\Bk wr V 40 a.cells/\Bk wr rb 33 [.slice Aa 0 0]/\Bp wr 0 64 2 u1 (Aim ((a.files.take i).foldl De l)) (DN ((a.files.take i).foldl De l))/\Bf w wr,[(2,.pointer (X ⟨P,0,Aa⟩)),(3,.pointer (X ⟨V,0,Aa⟩)),(4,.pointer (X ⟨rb,0,Aa⟩)),(5,U i)],wr,Aim a.files-i)) (0,(.slice A (Aim l) c),w3) ?_ ?_
    .exact⟨BD _,K,a6,q,ho.ext E,E⟩
    .rintro⟨i,u1,wr⟩⟨hi,hm,ha,hr,p,hx⟩;refine(O 9)<|Zi (fun j=>?_) fun j=>?_
     .obtain⟨i1,i2⟩:=I i hi;have bc:=I (i+1) j;have t:(a.files.take (i+1)).foldl De l=De ((a.files.take i).foldl De l) a.files[i]:=by rw[(CR j).symm,Qd];rfl
      have a1:=a5 _ (BM j);obtain⟨b5,o5,e4,_,aj⟩:=a3.Agw (l:=a.files) (i:=i) (c:=2) (fun _=>rfl) Bc j;generalize a.files[i]=x at t aj a1;generalize(a.files.take i).foldl De l=ll at p t i1 i2;obtain⟨A5,a7,rfl,_,a4⟩:=p.slice;have s0:GoS w wr.drew V rb P a:=⟨hx.trans (Bf.drew wr),ha.ext (Bf.drew wr),hr.ext (Bf.drew wr),_,hm.ext (Bf.drew wr)⟩;have T:=hm.ext (Bf.drew wr);refine KW.skip (Ek (KW.block ?_));refine Qb (N:=8) (fun w'=>GoS w w' V rb P a) Be Z ?_;have B:=(s0:GoS w wr.drew V rb P a);refine GW.val 1 Z Be Be Be Z Z B (fun w' D=>Dn (off:=4) underlying40 Z Z ti31 Z Z) ?_;refine GW.val 2 Z Be Be Be Z Z B (fun w' D=>Cg underlying31 Z Z (act_f D.act e4)) ?_;refine GW.val 3 Z Be Be Be Z Z B (fun w' D=>EX.move Z) ?_;refine GW.val 4 Z Be Be Be Z Z B (fun w' D=>MZ underlying31 Hj Z Z J) ?_;refine GW.val 5 Z Be Be Be Z Z B (fun w' D=>KT (l:=x.cells) underlying64 Z Hj Z Z (aj w' D.x)) ?_;refine GW.new 0 Z Be Z Z (Jl underlying33 Z ti33 Z (T) Z) ⟨B,fun B=>?_⟩;refine GW.call 6 Z Be Z Z Z (oP ll J x A5 a7 _ wr.drew (hG.ext B.x) J (fun y hy=>by grind) (a4.ext (Bf.drew wr))) ?_;rintro _ w4⟨W,rfl,g,f⟩;refine⟨B.ext f,fun B=>?_⟩;have G:Bp w4 0 64 2 W (Aim (De ll x)) (DN (De ll x)):=Bp.base g fun k n=>BD _;refine(Ys 7 (T.ext f) (hlt:=Bq _)) ?_;rintro w5 m d;refine⟨B.put d m a0 ao J,fun B=>?_⟩;refine(Yd∘O 6)<|Lb ((i+1),W,w5) ?_;dsimp only;rw[t]
      exact⟨j,m,B.act,B.r,Bp.mo G d fun k n=>by
       obtain⟨_,l',o⟩:=G.blkT k n;simpa using o.ne (T.ext f) Bc,B.x⟩
     .obtain rfl:i=Aim a.files:=J;rw[DA (Bq _),<-e5]at p;refine(O 4∘Zv (Cf hm)∘Zs hr (hlt:=Bq _)) ?_;rintro w5 m d;refine(O 1∘Kn m) ?_
      exact⟨⟨u1,Z,Bp.mo p d fun k n=>by
       obtain⟨_,l',o⟩:=p.blkT k n;simpa using o.ne hr Bc⟩,Bv hx d hx.size (fun k n=>by simp at n;omega)⟩
   .have e5:HO l a=l:=(Ag c0).trans ((Ag c1).trans (Ag c5));refine(O 4∘Zv (Cf K)∘Zs q (hlt:=Bq _)) ?_;rintro w5 m d;refine(O 1∘Kn m) ?_;rw[e5]
    exact⟨⟨_,Z,Bp.mo (ho.ext E) d fun k n=>by
     obtain⟨_,l',o⟩:=(ho.ext E).blkT k n;simpa using o.ne q Bc⟩,Bv E d E.size (fun k n=>by simp at n;omega)⟩
end
end
section
open Pth Rec Srt Cat Dsk Wal
def vY{n:Y}(h:1<=n/\n<=4096):Dsk.may (n:H) []:=by refine⟨J,J,by rfl,?_⟩;simp
def newN(n:Y)(h:1<=n/\n<=4096)(w:Ad):Bn prog 29 [U (n:H)] w fun v w'=>Bf w w'/\∃b,v=.tuple #[.pointer (X ⟨b,0,Aa⟩),U 0]/\Cz w' w.heap.size b (fresh n []):=
 (new_s (n:H) J J w).mono fun v w'⟨p,e,h1,h2,h3⟩=>⟨h2,by
  rcases h3 with⟨q,_⟩|⟨_,b,h4,h5,h6⟩
  .exact AK (vY h) q
  .grind⟩
end
section
attribute [local irreducible] OW KW QW EX GW NV
open Pth Rec Srt Dsk Wal Cat Tar
section
variable{w w':Ad}{B vb db:Y}{V:Vl}{g nx k:Y}{fs:Ae En}
def tG(h:VAt w B vb db V)(hv:VI V g nx k fs)(hk:k<=500000000)(N:Env w)(n:0<B)(ai:B<=w.heap.size)(a:Ta)(ha:a.Ok)(al:Aim a.path<=2000)(a0:Aim a.content<=1000000000)(ao:Aim a.files<=20)(aj:∀x∈a.files,Aim x.path<=2000/\Aim x.data<=1000000000)(C:Y)(hs:Sl w C a.fA (DN a.files)):
 Bn prog 10 [.pointer (X ⟨vb,0,Aa⟩),.agg a.cells.toArray] w fun v w'=>∃V' e g' nx',v=U ((e:Y):H)/\VAt w' B vb db V'/\VI V' g' nx' (k+400000) (if e=0 then HO fs a else fs)/\V'.D.cap=V.D.cap/\Tm w w' B vty:=by
 obtain⟨P,o2⟩:=hv.arc.ok;have W:=P.len;have r:=ha.tow;have I:DR w:=N.mlen;refine Bw func10 Z ntmps10 (by rfl) Z ?_;refine(O 2) ?_;refine DB Z Z Z ?_;rintro ab S af K d;refine(O 6) ?_;replace K:Bk S ab 40 a.cells:=K;have A:=h.ext d;have y:Tm w S B vty:=Tm.Age d _ _;refine(O 8)<|Zi (fun t=>?_) fun t=>?_
 .obtain⟨g',nx',i,l⟩:=hv.put J [⟨a.path,a.content⟩];have f:HO fs a=[⟨a.path,a.content⟩].foldl De fs:=Ai t;refine(O 7∘Zc (WZ A hv.ok J (N.ext d) n ⟨a.path,a.content⟩ ⟨Bh,J⟩)) ?_;rintro _ G⟨rfl,o,j⟩;refine(O 2∘Bu) ?_;exact⟨_,_,g',nx',Z,o,by rw[f];exact i.more J,l,y.trans j⟩
 .refine(O 5)<|Zi (fun E=>?_) fun E=>?_
  .obtain⟨g',nx',i,l,_⟩:=hv.delete J a.path;have f:HO fs a=Fz fs a.path:=(Ag t).trans (Ai E);refine(O 5∘Zc (fQ A hv.ok J (I.ext d) n a.path J)) ?_;rintro _ G⟨rfl,o,j⟩;refine(O 2∘Bu) ?_;exact⟨_,_,g',nx',Z,o,by rw[f];exact i.more J,l,y.trans j⟩
  .refine(O 5)<|Zi (fun c2=>?_) fun c2=>?_
   .obtain⟨g',nx',i,l,_⟩:=hv.move J a.path a.tow;have f:HO fs a=fs:=(Ag t).trans ((Ag E).trans (Ag J));refine(O 7∘Zc (Zp A hv.ok J (I.ext d) n a.path J a.tow r.1 r.2)) ?_;rintro _ G⟨rfl,o,j⟩;refine(O 2∘Bu) ?_;exact⟨_,_,g',nx',Z,o,by rw[f,ite_self];exact i.more J,l,y.trans j⟩
   .refine(O 5)<|Zi (fun c3=>?_) fun c3=>?_
    .have f:HO fs a=fs:=(Ag t).trans ((Ag E).trans (Ag J));refine(O 3∘Zc (fk (fun V k=>∃g nx,VI V g nx k fs) (fun V k⟨g,nx,q⟩=>q.ok) (fun V k p tt hk⟨g,nx,q⟩=>by obtain⟨g',nx',i,_⟩:=q.move J p tt;grind) (fun V k k'⟨g,nx,q⟩h=>⟨g,nx,q.more h⟩) A ⟨g,nx,hv⟩ J (N.ext d) n (fun m T=>by have:=QU P T;have:=JO (P.may m T);omega))) ?_;rintro _ G⟨L,hO,rfl,o,j⟩;refine(O 2) ?_;obtain⟨g',nx',i,l⟩:=hv.Aid (L:=L) J (by rw[hO.perm.length_eq];omega);refine(Bu) ?_;exact⟨_,_,g',nx',Z,o,by rw[f,ite_self];exact i,l,y.trans j⟩
    .refine(O 5)<|Zi (fun c4=>?_) fun c4=>?_
     .obtain⟨i,l,_,_⟩:=hv.trim;have f:HO fs a=fs:=(Ag t).trans ((Ag E).trans (Ag J));refine(O 3∘Zc (ow A hv.ok J)) ?_;rintro _ G⟨rfl,o,j⟩;refine(O 2∘Bu) ?_;exact⟨_,_,g,nx,Z,o,by rw[f,ite_self];exact i.more J,l,y.trans j⟩
     .refine(O 5)<|Zi (fun Q=>?_) fun Q=>?_
      .obtain⟨g',nx',i,l⟩:=hv.put J a.files;have f:HO fs a=a.files.foldl De fs:=(Ag t).trans ((Ag E).trans (Ai Q));refine(O 5∘Zc (ZX A hv.ok J (N.ext d) n a.files J a.fA a.fc C (hs.ext d) (fun x hx=>by grind))) ?_;rintro _ G⟨rfl,o,j⟩;refine(O 2∘Bu) ?_;exact⟨_,_,g',nx',Z,o,by rw[f];exact i.more J,l,y.trans j⟩
      .have f:HO fs a=fs:=(Ag t).trans ((Ag E).trans (Ag Q));refine(O 6∘Bu) ?_;exact⟨V,0,g,nx,Z,A,by rw[f,ite_self];exact hv.more J,Z,y⟩
def lu(n:Y)(o:31<=n/\n<=4096)(w:Ad)(p:DR w)(f:0<w.heap.size):Bn prog 8 [U (n:H)] w fun v w'=>∃db vb V,v=.tuple #[.pointer (X ⟨db,0,Aa⟩),.pointer (X ⟨vb,0,Aa⟩)]/\VAt w' w.heap.size vb db V/\VI V 0 0 10 []/\V.D.cap=n/\V.mems=[]/\Bf w w':=by
 obtain⟨m,l,j,i⟩:=xN o;have e:(fresh n []).Ok:=gU J Bl Bl;have d:Sm (fresh n []) 0:=⟨by simp[fresh],by simp[fresh],by simp[fresh],by simp[fresh]⟩;refine Bw func8 Z ntmps8 (by rfl) Z ?_;refine(O 8∘Zc (newN n J w)) ?_;rintro _ A⟨a,db,rfl,t⟩;refine(O 9) ?_;have x:=(lq t e d Bl (p.ext a) f (by show 30<n;omega) Z m).mono fun v w' (q:_/\_)=>(⟨q.1.resolve_right fun z=>z.1 l,q.2⟩:(_/\_)/\_);refine(Zc x) ?_;rintro _ y⟨⟨_,vb,rfl,r⟩,h⟩;refine(O 29∘BH) ?_;exact⟨db,vb,_,Z,r,j,i,Z,Tm.below a h a.size (Bq _)⟩
end
end
section
open Pth Rec Srt Dsk Wal Cat Tar
def zJ(b:AH)(g:Y):Kh g (BG 512 b):=by
 refine .inl ?_;unfold CB;rw[Ag]
 .decide
 .rintro⟨_,_,h⟩;unfold EH at h;split at h
  .grind
  .injection h with e _;have d:=Ar (fun l:Bg=>l[0]?) e;have a:=Ar (fun l:Bg=>l[1]?) e;rw[List.getElem?_replicate,Ai Bc]at d a;have i:X (75:AH)=X b:=d;have f:X (73:AH)=X b:=a;grind
section
open Bz
def Afb(t:BR)(h:t≠[]):Aim (Bz.used t)<=Aim t:=
 Zx _ _ ((Bz.used_may h).2.imp fun {a b} q e=>by grind) fun x hx=>(Bz.mem_used t x).1 hx
def gJ{α:Type}{f:α->Ae Aw}{c:Y}:∀(l:Ae α),(∀x∈l,Aim (f x)<=c)->Aim (l.flatMap f)<=c*Aim l
 |[],_=>Bq _
 |x::l,h=>by
  have:=gJ l fun y hy=>h y (El _ hy);have:=h x (Fa ..);rw[EY,BA,Cv,Nat.mul_add_one];omega
def zf(p:Bz.Pl){n:Y}(a:p.Ok n)(l:n<=4)(hk:Aim p.picks<=1):Aim (Bz.planBits p)<=1100:=by
 have i:=VB (m:=Aim p.tabs) p.picks (BE (Aim p.tabs)) GV (fun x d=>CQ.2 d) a.lt;have j:=a.tabs;have q:=OE j.2 hk
 have o:=gJ (f:=Bz.dShow) (c:=169) p.tabs fun t h=>by
  have e:=a.len t h;have r:=a.low;have:=Ux (fun x d=>((a.ok t h).pos x d).2) (fun v=>by grind);omega
 unfold Bz.planBits;simp only[BA,Bz.nb_length];omega
def yv{s:BR}(h:Aim s=1):Aim (Bz.packS s (CY s))<=512:=by
 have d:s≠[]:=fun e=>by grind
 have a:=Bz.enc_ne d;have m:=Bz.enc_len (Aim s) s (Bq _);obtain⟨o,n,j,_⟩:=Bz.listOf_len (Bz.enc s) a;obtain⟨i,f⟩:=ZV s J d;have l:=Ra _ i (Bz.listOf (Bz.enc s)) (OA f.symm) j (Aim (Bz.listOf (Bz.enc s))) (Bq _);rw[DY]at l;have q:=aM (Bz.used (Bz.enc s));have t:=Afb (Bz.enc s) a;have r:=zf _ i J (by rw[f];unfold Bz.grpN;omega)
 have p:Aim (Bz.blocksB s (CY s))<=2000:=by
  unfold Bz.blocksB;rw[Ag d];unfold Bz.blkB;simp only[BA,Bz.nb_length,Cv];omega
 unfold Bz.packS;rw[Bz.pack_length,Bz.streamB_length];omega
end
def kP{p c:AH}(d:(BP [p]).2.2=Af)(f:Cy [p]=0):Ca ⟨[p],[c]⟩=2:=by
 have h:Fits ⟨[p],[c]⟩:=⟨f,by show 1<=8192;decide⟩;have a:=YN h;rw[Ai d]at a;have j:=yv (s:=[c]) Z;have i:=(ZO (s:=[c]) (by show 1<=8192;decide)).1
 have e:Aim (Cj ⟨[p],[c]⟩)=1024:=by
  unfold Cj;rw[BA,UK,a];unfold Gj;show 512+(Aim (Bz.packS [c] (CY [c]))+511)/512*512=1024;omega
 unfold Ca;omega
section
variable{V:Vl}{g nx k:Y}{fs:Ae En}
def uk{l:Ae Xt}{cap n s:H}(d:1<=n)(a:OkX l cap)(h:IH l cap n s):ER l cap n=(s,0):=by
 have q:1<=n/\OkX l cap/\∃s,IH l cap n s:=⟨d,a,s,h⟩;have e:ER l cap n=(q.2.2.choose,0):=AQ q;rw[e,gE h q.2.2.choose_spec]
def VI.Ahg(h:VI V g nx k fs)(hk:k<=700000000)(x:En)(hx:Fits x){s:H}(i:1<=Ca x)(f:IH (BV V.mems) V.D.cap (Ca x) s)(hl:Aim V.mems<=15):(EA V [x]).2=0/\∃g' nx',VI (EA V [x]).1 g' nx' (k+100000) (De fs x)/\(EA V [x]).1.mems=Cc M.path (mz ((s,Ca x),x)) V.mems/\(EA V [x]).1.D.cap=V.D.cap:=by
 obtain⟨a,t⟩:=h.arc.ok;have v:=hx.data
 have d:FT [x]=0:=by
  unfold FT;rw[Ag (fun q=>q hx.path),Ag J];rfl
 have o:∀m:M,Aim (Cc M.path m V.mems)<=16:=fun m=>by
  rw[(ju (key:=M.path) m a.rises).length_eq,Cv];grind
 have r:DS V.mems ([x].map Ez)=Cc M.path (Ez x).mem V.mems:=by rw[Nx a.rises];rfl
 have p:=uk i a.ext f
 have e:Fzs V.D.cap (BV V.mems) [] [x]=([(s,Ca x)],0):=by
  unfold Fzs;rw[List.append_nil,p,Ag (fun q=>q Z)];rfl
 have y:EA V [x]=Go.Proofs.YtkmlafmjaeeanaaGreatDoor.putF V [x] [(s,Ca x)]:=by
  unfold EA;rw[Ag h.live];unfold Ej;rw[d,Ag (fun q=>q Z)];unfold NL;rw[Ag (fun q=>q (Qg.2 ⟨Bl,WF⟩))];unfold LH;rw[r,Ag Bh];unfold NM;rw[e,Ag (fun q=>q Z)]
 have n:Plac V.D.cap V.mems [((s,Ca x),x)]:=⟨f.ok i a.ext,fun z j=>by grind,fun z j=>by grind⟩;have w:DS V.mems (HJ Dw [x] [(s,Ca x)])=Cc M.path (mz ((s,Ca x),x)) V.mems:=by rw[Nx a.rises];rfl
 obtain⟨E,g',nx',C,B,A⟩:=h.putF J (l:=[x]) (ps:=[(s,Ca x)]) Z n nofun Bh Bl;grind
def vw{α:Type}{key:α->BR}{x y:α}(h:key x=key y):Cc key x [y]=[x]:=by
 have e:=(JE key x y).2 h;unfold Cc;grind
structure Wake(V0 V1 V2 V3 V4:Vl):Prop where
 one:EA V0 [⟨[98],[50]⟩]=(V1,0)
 two:EA V1 [⟨[97],[49]⟩]=(V2,0)
 del:Ky V2 [98]=(V3,0)
 comp:∀L,L.Perm V3.mems->Kx V3 L=(V4,0)
 ok0:VOk V0 10
 ok1:VOk V1 200000
 ok2:VOk V2 300000
 ok3:∃g nx fs,VI V3 g nx 400000 fs
 ok4:VOk V4 800000
 mem:V4.mems=[⟨[97],30,2,1,Fc [49]⟩]
 stands:Stands V4.D ⟨[97],30,2,1,Fc [49]⟩ ⟨[97],[49]⟩
 live:¬(V4.broken=Af∨V4.D.dead=Af)
 find:CO V4 [97]=(⟨[97],30,2,1,Fc [49]⟩,0)
def wakes{m:Vl}(h0:VI m 0 0 10 [])(l:m.D.cap=60)(t:m.mems=[]):∃V1 V2 V3 V4,Wake m V1 V2 V3 V4:=by
 have ca:Cy [97]=0:=by decide+kernel
 have cb:Cy [98]=0:=by decide+kernel
 have sa:(BP [97]).2.2=Af:=by decide+kernel
 have sb:(BP [98]).2.2=Af:=by decide+kernel
 have na:Ca ⟨[97],[49]⟩=2:=kP sa ca;have nb:Ca ⟨[98],[50]⟩=2:=kP sb cb;have fa:Fits ⟨[97],[49]⟩:=⟨ca,by show 1<=8192;decide⟩;have fb:Fits ⟨[98],[50]⟩:=⟨cb,by show 1<=8192;decide⟩
 have a4:IH (BV m.mems) m.D.cap (Ca ⟨[98],[50]⟩) 30:=by
  rw[t,l,nb];exact⟨⟨Bc,Bc,fun x hx=>by cases hx⟩,fun s E=>E.1⟩
 obtain⟨Q,g1,a9,v,C,G⟩:=h0.Ahg Bc ⟨[98],[50]⟩ fb J a4 Bh;rw[t,nb]at C;generalize a1:EA m [⟨[98],[50]⟩]=r1 at Q v C G;obtain⟨V1,e1⟩:=r1;dsimp only at Q v C G;subst Q;have r:V1.mems=[mz ((30,2),⟨[98],[50]⟩)]:=C
 have a3:IH (BV V1.mems) V1.D.cap (Ca ⟨[97],[49]⟩) 32:=by
  rw[r,G,l,na];refine⟨⟨Bc,Bc,fun x hx=>?_⟩,fun s E=>?_⟩
  .rw[CG.1 hx];unfold apart;left;decide
  .have q:=E.2.2 (30,2) (Fa ..);have q1:=E.1;unfold apart at q;omega
 obtain⟨P,g2,a8,o,B,c2⟩:=v.Ahg Bc ⟨[97],[49]⟩ fa J a3 Bh;rw[r,na]at B;generalize a0:EA V1 [⟨[97],[49]⟩]=r2 at P o B c2;obtain⟨V2,e2⟩:=r2;dsimp only at P o B c2;subst P
 have h:V2.mems=[mz ((32,2),⟨[97],[49]⟩),mz ((30,2),⟨[98],[50]⟩)]:=by
  rw[B]
  have e:Ce M.path (mz ((32,2),⟨[97],[49]⟩)) (mz ((30,2),⟨[98],[50]⟩))=-1:=by
   show FX [97] [98]=-1;decide+kernel
  unfold Cc;rw[Ai e]
 have ba:¬(V2.broken=Af∨V2.D.dead=Af):=o.live
 have T:(CO V2 [98]).2=0:=by
  have:=o.Agt (i:=1) (by rw[h];decide);have e:V2.mems[1]'(by rw[h];decide)=mz ((30,2),⟨[98],[50]⟩):=by simp only[h];rfl
  rw[e]at this;have this:CO V2 [98]=_:=this;rw[this]
 obtain⟨g3,S,j,c3,d3⟩:=o.delete Bc [98];obtain⟨w,m3⟩:=d3 T;rw[w,Ai Z]at j;generalize ao:Ky V2 [98]=r3 at w j m3 c3;obtain⟨V3,e3⟩:=r3;dsimp only at w j m3 c3;subst w;have a:V3.mems=[mz ((32,2),⟨[97],[49]⟩)]:=by rw[m3,h];rfl
 have ai:(EA V3 []).2=0:=by
  have o1:=j.arc.ok.1;unfold EA;rw[Ag j.live];unfold Ej;rw[Ag (fun q=>q Z)];unfold NL;rw[Ag (fun q=>q WF)];unfold LH;rw[Nx o1.rises,Ag Bh];unfold NM;rw[Fzs,Ag (fun q=>q Z)];unfold putF;rw[Ai Z]
 have d:=j.Agt (i:=0) (by rw[a];decide);have a6:V3.mems[0]'(by rw[a];decide)=mz ((32,2),⟨[97],[49]⟩):=by simp only[a];rfl
 rw[a6]at d;obtain⟨g4,a7,I,c4,d4⟩:=j.move Bc [97] 30;have d:CO V3 [97]=(mz ((32,2),⟨[97],[49]⟩),0):=d
 obtain⟨N,A⟩:=d4 Bh (by
  rw[d,a,c3,c2,G,l];decide)
 rw[d,a]at A;generalize al:Hx V3 [97] 30=r4 at N I A c4;obtain⟨V4,e4⟩:=r4;dsimp only at N I A c4;subst N
 have ab:V4.mems=[⟨[97],30,2,1,Fc [49]⟩]:=by
  have q:=vw (key:=M.path) (x:=({ mz ((32,2),⟨[97],[49]⟩)with start:=30 }:M)) (y:=mz ((32,2),⟨[97],[49]⟩)) Z
  have hz:({ mz ((32,2),⟨[97],[49]⟩)with start:=30 }:M)=⟨[97],30,2,1,Fc [49]⟩:=by
   unfold mz;dsimp only;rw[M.mk.injEq];refine⟨Z,Z,Z,?_,?_⟩
   .decide
   .rfl
  refine A.trans (Eq.trans q ?_);rw[hz]
 obtain⟨n,c5,K,W⟩:=I.trim;generalize aj:KM V4=r5 at n c5 K W;obtain⟨V5,e5⟩:=r5;dsimp only at n c5 K W;subst K;have f:V5.mems=[⟨[97],30,2,1,Fc [49]⟩]:=W.trans ab;have p:=n.Agt (i:=0) (by rw[f];decide);have a5:V5.mems[0]'(by rw[f];decide)=⟨[97],30,2,1,Fc [49]⟩:=by simp only[f];rfl
 rw[a5]at p
 have af:Stands V5.D ⟨[97],30,2,1,Fc [49]⟩ ⟨[97],[49]⟩:=by
  have ef:Fz (De (De [] ⟨[98],[50]⟩) ⟨[97],[49]⟩) [98]=[⟨[97],[49]⟩]:=by decide+kernel
  have hf:=n.files;rw[ef,f]at hf;exact(hf.at_ (i:=0) Bc Bc).2
 refine⟨V1,V2,V3,V5,a1,a0,ao,fun L hL=>?_,h0.ok,(v.more Bc).ok,(o.more Bc).ok,⟨g3,S,_,j.more Bc⟩,(n.more Bc).ok,f,af,n.live,p⟩;rw[a]at hL;have a2:=List.perm_singleton.1 hL;subst a2;unfold Kx;rw[Ag (fun q=>q ai)];have ea:Ih V3 30 (mz ((32,2),⟨[97],[49]⟩))=(V3,0):=Ag Bc
 have eh:Mw (Ih V3 30 (mz ((32,2),⟨[97],[49]⟩))) 30 (mz ((32,2),⟨[97],[49]⟩))=(V4,0):=by
  rw[ea,jn,Ai Bc];exact al
 unfold Kw;rw[eh,Ag (fun q=>q Z)];exact aj
end
end
section
attribute [local irreducible] OW KW QW EX GW NV
open Pth Rec Srt Dsk Wal Cat Tar
section
variable{w w':Ad}
def Aea(w:Ad)(x:Env w)(d:0<w.heap.size):Bn prog 7 [] w fun v w'=>v=.bool Af/\Bf w w':=by
 refine Bw func7 Z ntmps7 (by rfl) Z ?_;refine(O 6∘Zc (lu 60 Bc w x.mlen d)) ?_;rintro _ w1⟨db,vb,V0,rfl,h0,v0,c0,m0,f⟩;refine(O 8) ?_;obtain⟨V1,V2,V3,V4,W⟩:=wakes v0 c0 m0;obtain⟨g3,N,T,I⟩:=W.ok3;have z1:=f.size;have a:∀w',Tm w1 w' w.heap.size vty->Bf w w':=fun w' t=>Tm.below f t f.size (Bq _);refine(O 5) ?_;have k1:=WZ h0 W.ok0 Bc (x.ext f) d ⟨[98],[50]⟩ ⟨by show 1<=1000000;decide,by show 1<=1000000000;decide⟩;rw[W.one]at k1;refine(Zc k1) ?_;rintro _ w2⟨rfl,h1,t1⟩;refine(O 4) ?_;have k2:=WZ h1 W.ok1 Bc (x.ext (a _ t1)) d ⟨[97],[49]⟩ ⟨by show 1<=1000000;decide,by show 1<=1000000000;decide⟩;rw[W.two]at k2;refine(Zc k2) ?_;rintro _ w3⟨rfl,h2,t2⟩;refine(O 3) ?_;have A:=t1.trans t2;refine(O 1) ?_;have k3:=fQ h2 W.ok2 Bc (x.ext (a _ A)).mlen d [98] Bc;rw[W.del]at k3;refine(Zc k3) ?_;rintro _ w4⟨rfl,h3,t3⟩;refine(O 3) ?_;have y:=A.trans t3;refine(O 1) ?_;have Q:=fk (fun V k=>∃g C G,VI V g C k G) (fun V k⟨g,C,G,q⟩=>q.ok) (fun V k p tt hk⟨g,C,G,q⟩=>by obtain⟨g',ab,q1,_⟩:=q.move J p tt;grind) (fun V k k'⟨g,C,G,q⟩h=>⟨g,C,G,q.more h⟩) h3 ⟨g3,N,T,I⟩ Bc (x.ext (a _ y)) d (fun m hm=>by have:=QU I.arc.ok.1 hm;have:=JO (I.arc.ok.1.may m hm);omega);replace Q:=Q.mono fun v w'⟨L,hO,q⟩=>(by rw[W.comp L hO.perm]at q;exact q:v=Value.int .i64 ((0:Y):H)/\VAt w' w.heap.size vb db V4/\Tm w4 w' w.heap.size vty);refine(Zc Q) ?_;rintro _ w5⟨rfl,h4,t4⟩;refine(O 3) ?_;have j:=y.trans t4;refine(O 5∘Zc (gm h4 W.ok4 Bc (x.ext (a _ j)) (fun w' t=>x.ext (a _ (j.trans t))) [97] [49] _ W.find W.stands W.live)) ?_;rintro _ w6⟨rfl,h5,t5⟩;refine(O 7) ?_;have K:=j.trans t5;refine(O 2∘Zv (by exact HD (r:=[49]) Z Z)∘O 6) ?_;have P:=UW h5 (by show Aim V4.mems<=_;rw[W.mem];decide)
 replace P:=P.mono fun v w' q=>(by
  have e:({ V4 with D:=DI V4.D (2:H).toNat }:Vl).mems=[⟨[97],30,2,1,Fc [49]⟩]:=W.mem;grind:Bp w' w6.heap.size 60 5 v 1 (DH [⟨[97],30,2,1,Fc [49]⟩])/\Bf w6 w')
 refine(Zc P) ?_;rintro v7 w7⟨B,S⟩;obtain⟨A7,c7,rfl,_,E⟩:=B.slice;obtain⟨b,o,rfl,_,n⟩:=E.flat (l:=[(⟨[97],30,2,1,Fc [49]⟩:M)]) (i:=0) (c:=5) (fun _=>rfl) Bc Bc;refine(O 2∘Zv (BZ (n 1 _ Z))∘O 4∘Bu) ?_;exact⟨by rfl,(a _ K).trans S⟩
end
def Fil.fits{D:Dv}{d:Ae M}{a:Ae En}(h:Fil D d a):∀x∈a,Fits x:=by
 induction h with
 |nil=>simp
 |cons _ h2 _ ih=>
  intro x e;rcases List.mem_cons.1 e with q|q
  .rw[q];exact h2.fits
  .grind
def zG(n:Y)(b:AH):BG n (Value.int .u8 (b.toNat:H))++BG (n-n) (.int .u8 0)=BI (BG n b):=by
 simp[BI]
def VI.small{V:Vl}{g nx k:Y}{a:Ae En}(h:VI V g nx k a):Aim a<=16/\∀y∈a,Aim y.path<=2000:=by
 have f:=h.arc.ok.1.len;have e:=h.files.len;exact⟨J,fun y d=>by have:=Xv (h.files.fits y d).path;omega⟩
def VAt.tmx{w w':Ad}{B a d C:Y}{V:Vl}{p:Ay->Aw}(h:VAt w B a d V)(t:Tm w w' C p)(p1:p 85=Aj)(p2:p 5=Aj)(k:p 137=Aj)(j:p 4=Aj)(i:p 3=Aj)(g:p 9=Aj)(f:p 82=Aj)(e:p 60=Aj):VAt w' B a d V:=by
 obtain⟨o,⟨u,n,m⟩,l⟩:=h;exact⟨o.tm t p1 p2 k j i g,⟨u,t.bk n f,t.own m e⟩,l⟩
def Aej(cap:H)(c0:-9223372036854775808<=cap)(c1:cap<=9223372036854775807)(d:Ae Ta)(cj:∀a∈d,a.Ok)(A:Av AC)(c C:Y)(fill:Bg)(A2:Av AC)(c2 C2:Y)(w:Ad)(hG:Env w)(af:0<w.heap.size)(hs:Sl w C A (aT d))(ce:Sl w C2 A2 (BI fill))(hl:Aim d<=140737488355328)(d1:Aim fill<=9223372036854775807)
 (b2:∀a∈d,∃C',Sl w C' a.fA (DN a.files)/\Aim a.files<=140737488355328) (hsz:∀a∈d,Aim a.path<=140737488355328/\Aim a.content<=140737488355328/\∀x∈a.files,Aim x.path<=140737488355328/\Aim x.data<=140737488355328):
 Bn prog 3 [U cap,.slice A (Aim d) c,.slice A2 (Aim fill) c2] w fun v w'=>v=.bool Af/\Bf w w':=by
 have bi:∀w',Bf w w'->Bn prog 7 [] w' fun v cb=>v=.bool Af/\Bf w cb:=fun w' I=>(Aea w' (hG.ext I) (Kj af I.size)).mono fun _ _ h=>⟨h.1,Bf.trans I h.2⟩;have cf:=few_s d 20000 Bc A c C w hs hl b2 hsz;refine Bw func3 Z ntmps3 Be Z ?_;refine(O 8∘Zc cf) ?_;rintro _ _⟨⟨b,rfl,hb⟩,rfl⟩;refine(O 2) ?_;rcases b with _|_
 .refine(O 8∘Zc (bi w (Bf.refl _))) ?_;rintro _ w1⟨rfl,G⟩;refine(O 2∘Bu) ?_;exact⟨Z,G⟩
 .obtain⟨d5,cu⟩:=hb Z;refine(O 5)<|Zi (fun hf=>?_) fun hf=>?_
  .refine(O 2∘Zc (bi w (Bf.refl _))) ?_;rintro _ w1⟨rfl,G⟩;refine(O 2∘Bu) ?_;exact⟨Z,G⟩
  .refine(O 4∘Zc (Aeo cap c0 c1 w)) ?_;rintro _ _⟨⟨n,rfl,d0,dv⟩,rfl⟩;refine(Zc (lu n J w hG.mlen af)) ?_;rintro _ w1⟨db,vb,V0,rfl,h0,v0,e0,m0,G⟩;refine(O 17∘Zn) ?_;rintro mb w2 c9 b5 ab;refine(Zs b5 (hlt:=Bq _)) ?_;rintro w3 ct bx;refine(O 7) ?_;have z1:=G.size;have x3:Bf w w3:=Bv (G.trans ab) bx (G.trans ab).size (fun k hk=>by simp at hk;omega);have x13:Bf w1 w3:=Bv ab bx ab.size (fun k hk=>by simp at hk;omega);refine Lo (fun((i,j8,g,nx,Q,u,wr):Y×Vl×Y×Y×(Ae En)×Ah×Ad)=>(i<=Aim d/\VAt wr w.heap.size vb db j8/\VI j8 g nx (10+400000*i) Q/\j8.D.cap=n/\Bk wr mb 33 [u]/\Bp wr 0 64 2 u (Aim Q) (DN Q)/\Bf w wr,[(1,.slice A (Aim d) c),(2,.slice A2 (Aim fill) c2),(7,.pointer (X ⟨db,0,Aa⟩)),(8,.pointer (X ⟨vb,0,Aa⟩)),(9,.pointer (X ⟨mb,0,Aa⟩)),(10,U i)],wr,Aim d-i)) (0,V0,0,0,([]),(.slice Aa 0 0),w3) ?_ ?_
   .exact⟨BD _,h0.ext x13,v0,e0,ct,Bp.nil _ _ _ _,x3⟩
   .rintro⟨i,j8,g,nx,Q,u,wr⟩⟨hi,hv,a5,a0,hm,al,I⟩;have cm:i<=100:=J;refine(O 8)<|Zi (fun p=>?_) fun p=>?_
    .obtain⟨b,o,rfl,_,bb⟩:=hs.Agw (cells:=Ta.cells) (l:=d) (i:=i) (c:=7) (fun _=>rfl) Bc p;have V:=bb wr I;obtain⟨C',a7,_⟩:=b2 _ (BM p);obtain⟨z1,z2,z3,z4⟩:=cu _ (BM p);have b7:=cj _ (BM p);generalize d[i]=a at bb V a7 z1 z2 z3 z4 b7;refine(O 9∘Zv (Do a.cells V)∘Zc (tG hv a5 J (hG.ext I) af I.size a b7 J J z2 (fun x I=>by have:=z4 x I;omega) C' (a7.ext I))) ?_;rintro _ w4⟨V',e,g',bn,rfl,h',v',cr,t4⟩;refine(O 2) ?_;have x4:Bf w w4:=Tm.below I t4 I.size (Bq _);have cl:=t4.bk hm Bc;have bl:=t4.own al Bc;obtain⟨da,cd⟩:=a5.small;refine Zi (fun hz=>?_) fun hz=>?_
     .rw[Ai (show e=0 by omega)]at v';have s0:Bf w w4.drew:=x4.trans (Bf.drew w4);have P:=cl.ext (Bf.drew w4);refine(Yr 7 (fun w'=>Bf w w'/\∃q,Bk w' mb 33 [q]) ⟨s0,_,P⟩) fun hS=>(Gv [1,2,3]∘Yw 4 (he:=by exact fun w' cz=>Do a.cells (bb w' cz.1))∘Yo 0 (he:=by exact Cf P)) fun hS=>(Yc 5 (uL Q J cd a J z2 (fun x I=>by have:=z4 x I;omega) u w4.drew (hG.ext s0).mlen (bl.ext (Bf.drew w4)) C' (a7.ext s0))) ?_;rintro _ w5⟨⟨u5,rfl,aj⟩,N⟩;refine⟨⟨hS.1.trans N,_,P.ext N⟩,fun hS=>?_⟩;refine(Ys 6 (P.ext N) (hlt:=Bq _)) ?_;rintro w6 b4 ba;refine⟨⟨Bv hS.1 ba hS.1.size (fun k hk=>by simp at hk;omega),_,b4⟩,fun hS=>?_⟩;refine(Yd∘O 6) ?_;have t6:Tm w5 w6 w.heap.size (fun j8=>j8==33):=Tm.set (P.ext N) ba J;refine Lb ((i+1),V',g',bn,(HO Q a),u5,w6) ?_
      exact⟨p,((h'.ext (Bf.drew w4)).ext N).tmx t6 Bc Bc Bc Bc Bc Bc Bc Bc,v'.more J,cr.trans a0,b4,Bp.mo aj ba (fun k hk=>by
       obtain⟨_,l',cv⟩:=aj.blkT k hk;simpa using cv.ne (P.ext N) Bc),hS.1⟩
     .rw[Ag (show ¬e=0 by omega)]at v';refine(O 7)<|Lb ((i+1),V',g',bn,Q,u,w4) ?_;grind
    .refine(O 7)<|Lo (fun((j,W,U2,L,bm,r):Y×Y×Vl×Y×Y×Ad)=>(j<=Aim fill/\VAt r w.heap.size W db U2/\VI U2 L bm (50000000+200000*j) Q/\U2.D.cap=n/\Bk r mb 33 [u]/\Bp r 0 64 2 u (Aim Q) (DN Q)/\Bf w r,[(2,.slice A2 (Aim fill) c2),(7,.pointer (X ⟨db,0,Aa⟩)),(8,.pointer (X ⟨W,0,Aa⟩)),(9,.pointer (X ⟨mb,0,Aa⟩)),(11,U j)],r,Aim fill-j)) (0,vb,j8,g,nx,wr) ?_ ?_
     .exact⟨BD _,hv,a5.more J,a0,hm,al,I⟩
     .rintro⟨j,W,U2,L,bm,r⟩⟨hj,a6,f,bc,b0,K,m⟩;have c7:j<=20:=J;have d4:=f.gk;have a9:=f.arc.rest;refine(O 8)<|Zi (fun T=>?_) fun T=>?_
      .obtain⟨bf,oF,rfl,_,cp⟩:=ce.at2 (by rw[EF];omega);have b3:(BI fill)[j]? =X (.int .u8 ((fill[j]).toNat:H)):=by simp[BI,T]
       generalize fill[j]=fb at b3;have cg:=gY a6;rw[f.gen]at cg;refine(O 6∘Zc cg) ?_;rintro _ _⟨rfl,rfl⟩;refine(O 4) ?_;refine WT (len:=512) Z Z underlying23 CD Z Z Z J J ?_;rintro gb w7 c8 d2 df;refine(O 8)<|Lo (fun((q,wf):Y×Ad)=>(q<=512/\Bk wf gb 5 (BG q (.int .u8 (fb.toNat:H))++BG (512-q) (.int .u8 0))/\Bf r wf,[(2,.slice (X ⟨bf,oF,Aa⟩) (Aim fill) c2),(7,.pointer (X ⟨db,0,Aa⟩)),(8,.pointer (X ⟨W,0,Aa⟩)),(9,.pointer (X ⟨mb,0,Aa⟩)),(11,U j),(12,U L),(13,.slice (X ⟨gb,0,Aa⟩) 512 512),(14,U q)],wf,512-q)) (0,w7) ?_ ?_
       .grind
       .rintro⟨q,wf⟩⟨hq,ai,B⟩;refine(O 6)<|Zi (fun bs=>?_) fun bs=>?_
        .refine(O 9∘Zv (BZ (cp wf (m.trans B) j _ b3))∘O 1∘Zt ai) ?_;rintro w8 b1 ck;refine(O 7)<|Lb ((q+1),w8) ?_;rw[zL _ _ _ bs]at b1;exact⟨J,b1,Bv B ck B.size Bx⟩
        .obtain rfl:q=512:=J;rw[zG 512 fb]at ai;have ao:=zJ fb L;have a8:Aim (BG 512 fb)=512:=Cm;generalize BG 512 fb=sb at ai ao a8;obtain⟨E,eW,oE,sE,zE,aE,fE,c4,bj,cE⟩:=f.arc.fill f.at_ f.files f.sm (i:=j%5) (Kk _ Bc) a8 ao;have xf:Bf w wf:=m.trans B;refine(O 13∘Zv (DZ ai.sl (hl:=a8))) ?_;have ei:(1-L%2)*5+j%5=(L+1)%2*5+j%5:=J;rw[ei]at eW;have b6:(L+1)%2*5+j%5<=9:=J;have i0:-9223372036854775808<=(((L+1)%2*5+j%5:Y):H):=Int.le_trans Bc (Int.natCast_nonneg _);have i1:(((L+1)%2*5+j%5:Y):H)<=9223372036854775807:=Int.le_trans (Int.ofNat_le.2 b6) Bc;have cw:=Tq (a6.dev.ext B) a9.ok (f.sm.small J) (((L+1)%2*5+j%5:Y):H) i0 i1 sb J;rw[eW]at cw;refine(Zc cw) ?_;rintro _ w8⟨rfl,d8,t8⟩;refine(O 3) ?_;have cs:=Rs d8 oE (sE.small J);rw[zE]at cs;refine(Zc cs) ?_;rintro _ w9⟨rfl,d9,t9⟩;refine(O 8) ?_;have a1:=t8.trans t9;have x9:Bf w w9:=Tm.below xf a1 xf.size (Bq _);obtain⟨q1,q2,q3⟩:=aE.opened c4 fE bj J J;have co:=(lq d9 aE.rest.ok bj J (hG.ext x9).mlen af aE.cap aE.rest.dead (aE.found J)).mono fun v w' (q:_/\_)=>(⟨q.1.resolve_right fun z=>z.1 q1,q.2⟩:(_/\_)/\_);refine(Zc co) ?_;rintro _ ca⟨⟨_,cc,rfl,b8⟩,a3⟩;refine(O 8) ?_;have S:Bf w ca:=Tm.below x9 a3 x9.size (Bq _);generalize cx:(⟨(DJ (FZ (DG E.sync.1) L) ((L:H)+1) U2.mems).1,(L:H)+1,0,U2.mems,Aj⟩:Vl)=U3 at q2 b8;have cq:U3.D.cap=n:=by rw[<-cx];exact q3.trans (cE.trans bc)
         have d3:U3.gen=((L+1:Y):H):=q2.gen;have ds:U3.next=((0:Y):H):=q2.next;have bq:=a3.bk (a1.bk (b0.ext B) Bc) Bc;have y:=a3.own (a1.own (K.ext B) Bc) Bc;refine(O 9) ?_;obtain⟨A10,c3,rfl,_,c6⟩:=y.slice;refine(Zv (Cf bq)) ?_;have ch:=jl b8 q2 J (fun w' t=>hG.ext (Tm.below S t S.size (Bq _))) Q (by have:=q2.small;omega) A10 c3 (fun w' t=>by obtain⟨_,_,eA,_,sl⟩:=(t.own y Bc).slice;cases eA;exact⟨_,sl⟩) S.size;rw[AM Z]at ch;refine(Zc ch) ?_;rintro _ b9⟨rfl,⟨nr,dn,bh⟩,a2⟩;refine(O 4) ?_;have a4:=q2.calls nr;have cg:=gY bh;rw[a4.gen]at cg;refine(Zc cg) ?_;rintro _ _⟨rfl,rfl⟩;refine(O 5∘Ig 115∘O 1) ?_;have cn:=xR bh;rw[a4.next]at cn;refine(Zc cn) ?_;rintro _ _⟨rfl,rfl⟩;refine(O 15)<|Lb ((j+1),cc,({ U3 with D:=DI U3.D nr }),(L+1),0,b9) ?_;exact⟨T,bh,a4.more J,cq,a2.bk bq Bc,a2.own y Bc,Tm.below S a2 S.size (Bq _)⟩
      .refine(O 4) ?_;obtain⟨A5,c5,rfl,_,dk⟩:=K.slice;refine(Zv (Cf b0)) ?_;have ch:=jl a6 f J (fun w' t=>hG.ext (Tm.below m t m.size (Bq _))) Q (by have:=f.small;omega) A5 c5 (fun w' t=>by obtain⟨_,_,eA,_,sl⟩:=(t.own K Bc).slice;cases eA;exact⟨_,sl⟩) m.size;rw[AM Z]at ch;refine(Zc ch) ?_;rintro _ w5⟨rfl,_,t5⟩;refine(O 1∘Zc (bi w5 (Tm.below m t5 m.size (Bq _)))) ?_;rintro _ w6⟨rfl,dg⟩;refine(O 3∘Bu) ?_;grind
end
section
open Go.ChangeShapes Go.WideShapes Go.ChangeAt
section
variable{j7:Type}{enc:Ay×Ah->j7}{P:AE}
def oz(hl:laidOutB P=Af){W W':Ad}(hx:Bf W W'):∀{ts:Ae Ay} {vs:Bm} {ds:Ae (DataW j7)} {ps:Ae MemPlace},
 (∀t∈ts,P.readableRec t=Af/\t<P.types.size)->DataW.TrodAll enc P W 0 (fun _=>Af) Af ts vs ds ps->(∀p∈ps,p.block<W.heap.size)->
 DataW.TrodAll enc P W' 0 (fun b=>decide (b<W.heap.size)) Af ts vs ds ps
 |[],vs,ds,ps,_,h,_=>by
  obtain⟨rfl,rfl,rfl⟩:=trodAll_nil h;rfl
 |t::ts,vs,ds,ps,hr,h,hlt=>by
  obtain⟨v,vs',d,ds',p,q,rfl,rfl,rfl,h1,h2⟩:=trodAll_cons h;refine trodAll_cons_mk (WideElems.Trod_stays hl (hr t Bl).1 (hr t Bl).2 h1 (fun x hx'=>hx.same (hlt x (by simp[hx']))) (fun x hx'=>by grind)) ?_;exact oz hl hx (fun u hu=>hr u Bh) h2 (fun x hx'=>hlt x (by simp[hx']))
def law_post{f:Func}{s:ChangeSpec}{W W':Ad}{args:Ap Ah}{ds gs:Ae (DataW j7)}{before:Ae MemPlace}{T:Ay}
 (hW:DataW.Whole enc P f.params.toList s.vars Aj W args.toList ds gs before) (hv:s.vars=[]) (a:s.fn j7 (ds++gs)={ results:=[.lit (.bool Af)],args:=ds }) (d:f.resultTypes=#[T]) (j:P.underlying T=X .bool)
 (hl:laidOutB P=Af) (k:∀t∈f.params.toList,P.readableRec t=Af/\t<P.types.size) (hx:Bf W W'):s.post enc P f Aj Af Aj Aj W args (.bool Af) W':=by
 have e:∀p∈before,p.block<W.heap.size:=fun p l=>hW.lt p l;have g:=hW;obtain⟨p,q,n,m,rfl,_,_⟩:=hW;rw[hv]at m;refine⟨ds,gs,_,[],p,[],g,?_,?_,?_,hx.frame _,fun h=>by grind⟩
 .rw[a,d];exact trodAll_cons_mk (p:=[]) (p':=[]) (shut_bool j _) trodAll_mk0
 .rw[a];exact oz hl hx k n (fun x i=>e x Bh)
 .rw[a,hv];rfl
end
section
variable{j7:Type}{enc:Ay×Ah->j7}{P:AE}{W:Ad}{base:Y}{t e:Ay}{v:Ah}{d:DataW j7}{p:Ae MemPlace}{r:Reach}{b0:Y}
def Aff{k:AI}{n:H}(a:k.signed=Aj)(h:(Lit.int k n).wf=Af):∃m:Y,n=m/\m<=maxN k:=by
 cases k<;>simp[IntKind.signed]at a<;>(simp[Lit.wf,IntKind.min,IntKind.max,IntKind.signed,IntKind.bits]at h;exact⟨n.toNat,J,by simp[maxN];omega⟩)
def bC{n:H}(h:(Lit.int .i64 n).wf=Af):-9223372036854775808<=n/\n<=9223372036854775807:=by
 simp[Lit.wf,IntKind.min,IntKind.max,IntKind.signed,IntKind.bits]at h;omega
def open_i64(ht:P.underlying t=X (.int .i64))(hval:Value.okWide P W r b0 t v)(f:DataW.Trod enc P W base (fun _=>Af) Af t v d p):∃n:H,v=.int .i64 n/\-9223372036854775808<=n/\n<=9223372036854775807:=by
 obtain⟨n,rfl,_,_,a⟩:=open_int ht hval f;exact⟨n,Z,bC a⟩
def aC{a:AC}{xs:Bm}(h:∀j u,xs[j]? =X u->W.cell? (a.add j)=X u):Sl W W.heap.size (X a) xs:=by
 by_cases i:xs=[]
 .exact .inl i
 .have q:0<Aim xs:=Kg.2 i;have f:=h 0 xs[0] (BN q);have n:a.add 0=a:=by unfold Addr.add;simp
  rw[n]at f;obtain⟨b,o,l⟩:=a
  have g:l=Aa:=by
   unfold World.cell? at f;split at f
   .simp_all
   .grind
  subst g;refine .inr ⟨b,o,Z,World.block_lt_of_cell? W _ f,fun j u m=>?_⟩;have:=h j u m;have k:(⟨b,o,Aa⟩:AC).add j=⟨b,o+j,Aa⟩:=by unfold Addr.add;split<;>simp_all
  grind
def kJ{k:AI}(hs:k.signed=Aj):∀(zs:Ae H),(∀n∈zs,(Lit.int k n).wf=Af)->∃ms:Bi,zs=ms.map (fun(m:Y)=>(m:H))/\∀m∈ms,m<=maxN k
 |[],_=>⟨[],Z,Bl⟩
 |z::zs,h=>by
  obtain⟨m,rfl,hm⟩:=Aff hs (h z Bl);obtain⟨ms,rfl,hms⟩:=kJ hs zs (fun n hn=>h n Bh);exact⟨m::ms,Z,Bh⟩
def open_slN{k:AI}(ht:P.underlying t=X (.slice e))(he:P.underlying e=X (.int k))(I:k.signed=Aj)(T:P.cellsOf e=1)(hval:Value.okWide P W r b0 t v)(S:DataW.Trod enc P W base (fun _=>Af) Af t v d p):
 ∃(l:Bi) (A:Av AC) (c:Y),v=.slice A (Aim l) c/\(∀x∈l,x<=maxN k)/\Aim l<=9223372036854775807/\Sl W W.heap.size A (BC k l):=by
 obtain⟨A,len,q,rfl⟩:=okWide_slice ht hval;obtain⟨C,Q⟩:=S;rcases open_ints ht he T Q with⟨f,_⟩|⟨a,y,D,w,f,_,V,L,E,_,g,m⟩
 .simp[Value.cells]at f;obtain⟨rfl,rfl,rfl⟩:=f;exact⟨[],Aa,0,Z,Bl,Bl,.inl Z⟩
 .simp[Value.cells]at f;obtain⟨rfl,rfl,rfl⟩:=f;simp only[if_true]at E;obtain⟨i,h,n⟩:=kJ I w m;have K:Aim i=Aim w:=by rw[h];simp
  refine⟨i.take len,X a,q,?_,fun x G=>n x (HH G),?_,aC fun j u B=>?_⟩
  .grind
  .rw[BY];simp only[maxLen]at L;omega
  .have o:j<Aim (BC k (i.take len)):=(HF.1 B).1;rw[DF,BY]at o;have N:j<Aim i:=J;rw[g j J,<-B,h];simp[BC,List.getElem?_take,show j<len by omega,N,TK]
def bB:∀{l:Ae (DataW j7)} {x:DataW j7},x∈l->∀n∈x.weights P e,n∈DataW.weightsAll P e l
 |y::l,x,hx,n,hn=>by
  simp only[DataW.weightsAll,Dz];rcases List.mem_cons.1 hx with rfl|hx
  .grind
  .exact .inr (bB hx n hn)
 |[],_,hx,_,_=>by grind
end
end
section
open Go.ChangeShapes Go.WideShapes Go.ChangeAt Go.Deep
def Yy{α:Type}{cells:α->Bm}{c:Y}(hc:∀a,Aim (cells a)=c):∀(l:Ae α) (j:Y) (u:Ah),(l.flatMap cells)[j]? =X u->∃i r,∃hi:i<Aim l,r<c/\j=i*c+r/\(cells l[i])[r]? =X u
 |[],j,u,h=>by grind
 |a::l,j,u,h=>by
  rw[EY]at h;by_cases hj:j<c
  .rw[FA Bh]at h;exact⟨0,j,Bl,hj,J,h⟩
  .rw[Hl Bh,hc]at h;obtain⟨i,r,hi,hr,he,hu⟩:=Yy hc l _ u h;exact⟨i+1,r,Bh,hr,Bh,Bh⟩
section
variable{j7:Type}{enc:Ay×Ah->j7}{P:AE}{W:Ad}{base:Y}{t e:Ay}{v:Ah}{d:DataW j7}{p:Ae MemPlace}{r:Reach}{b0:Y}
def yw{α:Type}[Inhabited α](cells:α->Bm)(ok:α->Prop){c:Y}(G:∀a,Aim (cells a)=c)(ht:P.underlying t=X (.slice e))(hc:P.cellsOf e=c)
 (step:∀n cs x,DataW.trod enc P W base (fun _=>Af) Af n e cs=X x->(∀m∈x.1.weights P e,m<=reachBytes)->(∃es sp,d=.slice es sp/\x.1∈es)->∃a,cs=cells a/\ok a)
 (hval:Value.okWide P W r b0 t v) (hd:DataW.Trod enc P W base (fun _=>Af) Af t v d p)
 {K:Ae Ay} {ds:Ae (DataW j7)} (hsz:(DataW.weightsEach P K ds).all (·<=reachBytes)=Af) {j:Y} (Q:K[j]? =X t) (w:ds[j]? =X d):
 ∃(l:Ae α) (A:Av AC) (cap:Y),v=.slice A (Aim l) cap/\(∀a∈l,ok a)/\(A=Aa->l=[])/\Aim l*P.bytesOf e<=reachBytes/\Aim l<=cap/\Sl W W.heap.size A (l.flatMap cells):=by
 obtain⟨A,len,cap,rfl⟩:=okWide_slice ht hval;obtain⟨V,hf⟩:=hd;rcases open_slice ht hf with⟨f,_⟩|⟨a,L,ab,m,n,D,Pl,f,_,hl,hm,g,N,E⟩
 .simp[Value.cells]at f;obtain⟨rfl,rfl,rfl⟩:=f;exact⟨[],Aa,0,Z,Bl,fun _=>rfl,Bl,Bl,.inl Z⟩
 .simp[Value.cells]at f;obtain⟨rfl,rfl,rfl⟩:=f;simp only[if_true]at g;subst g;simp only[Qq.injEq]at N;obtain⟨rfl,rfl⟩:=N
  obtain⟨B,hB⟩:=choose_lt (α:=α) (p:=fun i b=>W.cells? base (a.add (i*c)) c=X (cells b)/\ok b) (n:=len) (fun i S=>by
   obtain⟨I,T,h2⟩:=E i J
   have hw:∀k∈(D i).weights P e,k<=reachBytes:=fun k hk=>by
    have h:D i∈(BE len).map D:=Ck.2 ⟨i,CQ.2 S,Z⟩
    have T:k∈(DataW.slice ((BE len).map D) ((BE (m-len)).map fun j=>D (len+j)):DataW j7).weights P t:=by
     simp only[DataW.weights,ht,List.mem_cons,Dz];exact .inr (.inl (bB h _ hk))
    have:=Ng.1 hsz _ (DataW.weights_mem_each Q w _ T);grind
   obtain⟨b,rfl,hb⟩:=step n I _ h2 hw ⟨_,_,Z,Ck.2 ⟨i,CQ.2 S,Z⟩⟩;grind)
  have o:Aim ((BE len).map B)=len:=Bl;refine⟨(BE len).map B,X a,m,by rw[o],?_,fun q=>Bh,?_,J,aC fun i u hu=>?_⟩
  .grind
  .rw[o];have:=sized_slice hsz Q w ht;grind
  .obtain⟨q,s,hq,hs,rfl,y⟩:=Yy G _ _ _ hu;have C:q<len:=by simpa using hq
   have hg:((BE len).map B)[q]=B q:=Bl;rw[hg]at y;rw[<-add_add,(World.cells?_some (hB q C).1).2.2 s hs];omega
end
section
variable{j7:Type}{enc:Ay×Ah->j7}{P:AE}{W:Ad}{base:Y}{t e:Ay}
def kL{α:Type}[Inhabited α](cells:α->Bm)(ok:α->Prop){c:Y}(y:∀a,Aim (cells a)=c)(ht:P.underlying t=X (.slice e))(hc:P.cellsOf e=c)
 (step:∀n cs x,DataW.trod enc P W base (fun _=>Af) Af n e cs=X x->(∀m∈x.1.weights P e,m<=reachBytes)->∃a,cs=cells a/\ok a)
 {E:Y} {h:Bm} {C:DataW j7×Ae MemPlace} (hf:DataW.trod enc P W base (fun _=>Af) Af E t h=X C) (hsz:∀m∈C.1.weights P t,m<=reachBytes):
 ∃(l:Ae α) (A:Av AC) (cap:Y),h=[.slice A (Aim l) cap]/\(∀a∈l,ok a)/\(A=Aa->l=[])/\Aim l*P.bytesOf e<=reachBytes/\Aim l<=cap/\Sl W W.heap.size A (l.flatMap cells):=by
 rcases open_slice ht hf with⟨w,_⟩|⟨a,len,cap,m,n,D,Pl,rfl,_,hl,hm,d,G,v⟩
 .exact⟨[],Aa,0,w,Bl,fun _=>rfl,Bl,Bl,.inl Z⟩
 .simp only[if_true]at d;subst d;subst G
  obtain⟨B,T⟩:=choose_lt (α:=α) (p:=fun i b=>W.cells? base (a.add (i*c)) c=X (cells b)/\ok b) (n:=len) (fun i Q=>by
   obtain⟨V,h1,h2⟩:=v i J
   have hw:∀k∈(D i).weights P e,k<=reachBytes:=fun k N=>by
    have f:D i∈(BE len).map D:=Ck.2 ⟨i,CQ.2 Q,Z⟩;refine hsz k ?_;simp only[DataW.weights,ht,List.mem_cons,Dz];exact .inr (.inl (bB f _ N))
   grind)
  have g:Aim ((BE len).map B)=len:=Bl;refine⟨(BE len).map B,X a,m,by rw[g],?_,fun q=>Bh,?_,J,aC fun i u I=>?_⟩
  .grind
  .rw[g];have:=hsz ((Aim ((BE len).map D)+Aim ((BE (m-len)).map fun j=>D (len+j)))*P.bytesOf e) (by simp[DataW.weights,ht]);grind
  .obtain⟨q,s,L,K,rfl,o⟩:=Yy y _ _ _ I;have r:q<len:=by simpa using L
   have S:((BE len).map B)[q]=B q:=Bl;rw[S]at o;rw[<-add_add,(World.cells?_some (T q r).1).2.2 s K];omega
def xL(ht:P.underlying t=X (.slice e))(he:P.underlying e=X .bool)(i:P.cellsOf e=1)(d:P.bytesOf e=1)
 {g:Y} {a:Bm} {f:DataW j7×Ae MemPlace} (hf:DataW.trod enc P W base (fun _=>Af) Af g t a=X f) (hsz:∀m∈f.1.weights P t,m<=reachBytes):
 ∃(l:Ae Aw) (A:Av AC) (cap:Y),a=[.slice A (Aim l) cap]/\(A=Aa->l=[])/\Aim l<=140737488351232/\Sl W W.heap.size A (l.map fun b=>.bool b):=by
 obtain⟨l,A,cap,o,_,k,j,_,p⟩:=kL (fun b:Aw=>[Value.bool b]) (fun _=>True) (c:=1) (fun _=>rfl) ht i (fun n q x h _=>by
  obtain⟨b,rfl,_⟩:=DataW.trod_bool he h;simp) hf hsz
 refine⟨l,A,cap,o,k,?_,?_⟩
 .rw[d,Ic]at j;assumption
 .have e:∀l:Ae Aw,(l.flatMap fun b=>[Value.bool b])=l.map fun b=>.bool b:=fun l=>by
   induction l with
   |nil=>rfl
   |cons b l ih=>grind
  grind
end
end
section
open Go.ChangeShapes Go.WideShapes Go.ChangeAt Go.Deep Dsk
structure Fl where
 at_:H
 ks:Ae Aw
 A:Av AC
 k:Y
def Fl.cells(f:Fl):Bm:=[U f.at_,.slice f.A (Aim f.ks) f.k]
structure Fl.Ok(f:Fl)(w:Ad)(C:Y):Prop where
 at_:-9223372036854775808<=f.at_/\f.at_<=9223372036854775807
 nil:f.A=Aa->Lp f.ks=[]
 len:Aim f.ks<=140737488351232
 sl:Sl w C f.A (Lp f.ks)
section
variable{j7:Type}{enc:Ay×Ah->j7}{W:Ad}{base:Y}{v:Ah}{d:DataW j7}{p:Ae MemPlace}{r:Reach}{b0:Y}
def two{l:Bm}(h:Aim l=2):∃a b,l=[a,b]:=by
 match l,h with
 |[a,b],_=>simp
def tX(n:Y)(L:Bm)(x:DataW j7×Ae MemPlace)(h:DataW.trod enc prog W base (fun _=>Af) Af n 38 L=X x)(V:∀m∈x.1.weights prog 38,m<=reachBytes):∃a:Fl,L=a.cells/\a.Ok W W.heap.size:=by
 obtain⟨e,m,rfl,rfl,hl,C,E⟩:=DataW.trod_struct underlying38 h;obtain⟨P,N,rfl⟩:=two (hl.trans Be);have g:∀i (hi:i<2),∃y,e[i]? =X y:=fun i hi=>⟨_,BN Bh⟩;obtain⟨Q,e0⟩:=g 0 J;obtain⟨B,K⟩:=g 1 J;have t:DataW.trod enc prog W base (fun _=>Af) Af m 3 ((([P,N]:Bm).drop 0).take (prog.cellsOf 3))=X Q:=(E 0 _ Z).trans e0;have q:DataW.trod enc prog W base (fun _=>Af) Af m 36 ((([P,N]:Bm).drop 1).take (prog.cellsOf 36))=X B:=(E 1 _ Z).trans K;rw[show prog.cellsOf 3=1 by kernel_rfl]at t;rw[show prog.cellsOf 36=1 by kernel_rfl]at q;simp only[Nh,RO,Qi,Ox]at t q;obtain⟨T,I,_,S⟩:=DataW.trod_int underlying3 t;have o:(e.map (·.1))[1]? =X B.1:=by rw[DP,K];rfl
 have f:∀k∈DataW.weightsEach prog [3,36] (e.map (·.1)),k<=reachBytes:=fun k D=>V k (by
  assumption)
 obtain⟨l,A,w,G,hA,hn,hs⟩:=xL underlying36 underlying4 Be Be q (fun k D=>f k (DataW.weights_mem_each (j:=1) Z o _ D));simp only[Qc.injEq,and_true]at I G;subst I G;exact⟨⟨T,l,A,w⟩,Z,⟨bC S,fun h=>by rw[hA h];rfl,hn,hs⟩⟩
end
end
section
open Go.ChangeShapes Go.WideShapes Go.ChangeAt Go.Deep Pth Rec Srt Dsk Wal Cat Tar
section
variable{j7:Type}{enc:Ay×Ah->j7}{W:Ad}{base:Y}{v:Ah}{d:DataW j7}{p:Ae MemPlace}{r:Reach}{b0:Y}
instance:Inhabited En:=⟨⟨[],[]⟩⟩
instance:Inhabited Ta:=⟨⟨0,[],[],0,[],Aa,0,0,[],Aa,0⟩⟩
def Aep{l:Bm}(h:Aim l=2):∃a b,l=[a,b]:=by
 match l,h with
 |[a,b],_=>simp
def Abv{l:Bm}(h:Aim l=7):∃a b c d e f g,l=[a,b,c,d,e,f,g]:=by
 match l,h with
 |[a,b,c,d,e,f,g],_=>simp
def VU{P:AE}{ts:Ae Ay}{ds:Ae (DataW j7)}{j:Y}{t:Ay}{s:Bg}(h:∀m∈DataW.weightsEach P ts ds,m<=reachBytes)(ht:ts[j]? =X t)(hd:ds[j]? =X (.lit (.string s))):Aim s<=140737488351232:=
 BF (h _ (DataW.weights_mem_each ht hd _ (by simp[DataW.weights]))) Bc
def Wi(a:En):Prop:=Aim a.path<=140737488351232/\Aim a.data<=140737488351232
def tM(n:Y)(K:Bm)(x:DataW j7×Ae MemPlace)(h:DataW.trod enc prog W base (fun _=>Af) Af n 64 K=X x)(S:∀m∈x.1.weights prog 64,m<=reachBytes):∃a:En,K=a.cells/\Wi a:=by
 obtain⟨f,m,rfl,rfl,T,B,C⟩:=DataW.trod_struct underlying64 h;obtain⟨N,L,rfl⟩:=Aep (T.trans Be);have g:∀i (V:i<2),∃y,f[i]? =X y:=fun i V=>⟨_,BN Bh⟩;obtain⟨Q,I⟩:=g 0 J;obtain⟨P,G⟩:=g 1 J;have t:DataW.trod enc prog W base (fun _=>Af) Af m 9 ((([N,L]:Bm).drop 0).take (prog.cellsOf 9))=X Q:=(C 0 _ Z).trans I;have q:DataW.trod enc prog W base (fun _=>Af) Af m 9 ((([N,L]:Bm).drop 1).take (prog.cellsOf 9))=X P:=(C 1 _ Z).trans G;rw[show prog.cellsOf 9=1 by kernel_rfl]at t q;simp only[Nh,RO,Qi,Ox]at t q;obtain⟨A,E,o,w0⟩:=DataW.trod_string underlying9 t;obtain⟨w,D,l,w1⟩:=DataW.trod_string underlying9 q;simp only[Qc.injEq,and_true]at E D;subst E D;have d0:(f.map (·.1))[0]? =X (.lit (.string A.data.toList)):=by rw[DP,I,o];rfl
 have d1:(f.map (·.1))[1]? =X (.lit (.string w.data.toList)):=by rw[DP,G,l];rfl
 have e:∀k∈DataW.weightsEach prog [9,9] (f.map (·.1)),k<=reachBytes:=fun k hk=>S k (by
  assumption)
 exact⟨⟨A.data.toList,w.data.toList⟩,Z,VU (j:=0) e Z d0,VU (j:=1) e Z d1⟩
structure Ta.Oks(a:Ta):Prop where
 ok:a.Ok
 path:Aim a.path<=140737488351232
 content:Aim a.content<=140737488351232
 files:Aim a.files<=140737488351232
 each:∀x∈a.files,Wi x
structure Ta.At(a:Ta)(w:Ad)(C:Y):Prop where
 files:Sl w C a.fA (DN a.files)
 keep:Sl w C a.kA (Lp a.ks)
def dx(w:Ad)(C:Y)(A:Av AC)(l:Ae Ta):Prop:=Sl w C A (aT l)/\(∀a∈l,a.At w C)/\Aim l<=140737488351232
def Ade(n:Y)(K:Bm)(x:DataW j7×Ae MemPlace)(h:DataW.trod enc prog W base (fun _=>Af) Af n 40 K=X x)(P:∀m∈x.1.weights prog 40,m<=reachBytes):∃a:Ta,K=a.cells/\a.Oks/\a.At W W.heap.size:=by
 obtain⟨o,m,rfl,rfl,hl,ab,q⟩:=DataW.trod_struct underlying40 h;obtain⟨E,D,C,B,A,w,t,rfl⟩:=Abv (hl.trans Be);have g:∀i (hi:i<6),∃y,o[i]? =X y:=fun i hi=>⟨_,BN (by simp_all)⟩;obtain⟨y0,e0⟩:=g 0 J;obtain⟨y1,e1⟩:=g 1 J;obtain⟨y2,e2⟩:=g 2 J;obtain⟨y3,e3⟩:=g 3 J;obtain⟨y4,e4⟩:=g 4 J;obtain⟨y5,e5⟩:=g 5 J;have f0:DataW.trod enc prog W base (fun _=>Af) Af m 3 ((([E,D,C,B,A,w,t]:Bm).drop 0).take (prog.cellsOf 3))=X y0:=(q 0 _ Z).trans e0;have f1:DataW.trod enc prog W base (fun _=>Af) Af m 9 ((([E,D,C,B,A,w,t]:Bm).drop 1).take (prog.cellsOf 9))=X y1:=(q 1 _ Z).trans e1;have f2:DataW.trod enc prog W base (fun _=>Af) Af m 9 ((([E,D,C,B,A,w,t]:Bm).drop 2).take (prog.cellsOf 9))=X y2:=(q 2 _ Z).trans e2;have f3:DataW.trod enc prog W base (fun _=>Af) Af m 3 ((([E,D,C,B,A,w,t]:Bm).drop 3).take (prog.cellsOf 3))=X y3:=(q 3 _ Z).trans e3;have V:DataW.trod enc prog W base (fun _=>Af) Af m 31 ((([E,D,C,B,A,w,t]:Bm).drop 4).take (prog.cellsOf 31))=X y4:=(q 4 _ Z).trans e4;have T:DataW.trod enc prog W base (fun _=>Af) Af m 38 ((([E,D,C,B,A,w,t]:Bm).drop 5).take (prog.cellsOf 38))=X y5:=(q 5 _ Z).trans e5;rw[show prog.cellsOf 3=1 by kernel_rfl]at f0 f3;rw[show prog.cellsOf 9=1 by kernel_rfl]at f1 f2;rw[show prog.cellsOf 31=1 by kernel_rfl]at V;rw[show prog.cellsOf 38=2 by kernel_rfl]at T;simp only[Nh,RO,Qi,Ox]at f0 f1 f2 f3 V T;obtain⟨n0,h0,_,w0⟩:=DataW.trod_int underlying3 f0;obtain⟨s1,h1,N,_⟩:=DataW.trod_string underlying9 f1;obtain⟨s2,h2,L,_⟩:=DataW.trod_string underlying9 f2;obtain⟨n3,h3,_,w3⟩:=DataW.trod_int underlying3 f3;have d1:(o.map (·.1))[1]? =X (.lit (.string s1.data.toList)):=by rw[DP,e1,N];rfl
 have d2:(o.map (·.1))[2]? =X (.lit (.string s2.data.toList)):=by rw[DP,e2,L];rfl
 have d4:(o.map (·.1))[4]? =X y4.1:=by rw[DP,e4];rfl
 have d5:(o.map (·.1))[5]? =X y5.1:=by rw[DP,e5];rfl
 have e:∀k∈DataW.weightsEach prog [3,9,9,3,31,38] (o.map (·.1)),k<=reachBytes:=fun k I=>P k (by
  assumption)
 obtain⟨l,fA,fc,h4,S,_,G,_,Q⟩:=kL (α:=En) En.cells Wi (c:=2) (fun _=>rfl) underlying31 Be (fun n K x hx P=>tM n K x hx P) V (fun k I=>e k (DataW.weights_mem_each (j:=4) Z d4 _ I));rw[show prog.bytesOf 64=32 by kernel_rfl]at G;simp only[reachBytes]at G;obtain⟨fl,h5,f⟩:=tX m _ _ T (fun k I=>e k (DataW.weights_mem_each (j:=5) Z d5 _ I));have l1:=VU (j:=1) e Z d1;have l2:=VU (j:=2) e Z d2;simp only[Qc.injEq,and_true]at h0 h1 h2 h3 h4;subst h0 h1 h2 h3 h4;obtain⟨fa,ks,kA,kk⟩:=fl;simp only[Fl.cells,Qc.injEq,and_true]at h5;obtain⟨rfl,rfl⟩:=h5;exact⟨⟨n0,s1.data.toList,s2.data.toList,n3,l,fA,fc,fa,ks,kA,kk⟩,Z,⟨⟨bC w3,f.at_,f.nil,f.len⟩,l1,l2,Bh,S⟩,⟨Q,f.sl⟩⟩
def open_Act(hval:Value.okWide prog W r b0 22 v)(q:DataW.Trod enc prog W base (fun _=>Af) Af 22 v d p)
 {g:Ae Ay} {ds:Ae (DataW j7)} (hsz:(DataW.weightsEach prog g ds).all (·<=reachBytes)=Af) {j:Y} (o:g[j]? =X 22) (e:ds[j]? =X d):
 ∃(l:Ae Ta) (A:Av AC) (cap:Y),v=.slice A (Aim l) cap/\(∀a∈l,a.Oks)/\dx W W.heap.size A l:=by
 obtain⟨l,A,cap,w,i,_,h,_,t⟩:=yw (α:=Ta) Ta.cells (fun a=>a.Oks/\a.At W W.heap.size) (c:=7) (fun _=>rfl) underlying22 Be (fun n y x k m _=>Ade n y x k m) hval q hsz o e;rw[show prog.bytesOf 40=104 by kernel_rfl]at h;simp only[reachBytes]at h;exact⟨l,A,cap,w,fun a f=>(i a f).1,t,fun a f=>(i a f).2,J⟩
end
def mlen_of{w:Ad}(h:w.ShapedOpen prog):DR w:=Tryz.Ail.s1_3 w h
def tab_of5{W:Ad}(h:laidMetH prog Rows.topSlotsRow.laid W):Qr W:=by
 have a:laidMet prog [("internal/strconv.uint64pow10",Lib.tabData .u64 Lib.pow10Tab),("unicode/utf8.acceptRanges",Rows.laid_unicode_utf8_acceptRanges),("unicode/utf8.first",Rows.laid_unicode_utf8_first)] W:=laidMet.tail (laidMet.tail h);exact Lib.tabBelow_of_tabIs (Lib.tabIs_of_head (rest:=[("unicode/utf8.acceptRanges",Rows.laid_unicode_utf8_acceptRanges),("unicode/utf8.first",Rows.laid_unicode_utf8_first)]) (g:=3) Be Be underlying399 underlying211 Be Be a)
def xD{w:Ad}(h:DR w):0<w.heap.size:=by
 obtain⟨m,h⟩:=h;exact World.block_lt_of_cell? w _ h
def topSlots_z(cap:H)(c0:-9223372036854775808<=cap)(c1:cap<=9223372036854775807)(f:Ae Ta)(g:∀a∈f,a.Oks)(A:Av AC)(c:Y)(fill:Bi)(A2:Av AC)(c2:Y)(hf:∀x∈fill,x<=255)(m:Aim fill<=9223372036854775807)(w:Ad)(C:Y)(k:dx w C A f)(l:Y)(i:Sl w l A2 (BC .u8 fill))(ht:Qr w)(hm:DR w):
 Bn prog 3 [U cap,.slice A (Aim f) c,.slice A2 (Aim fill) c2] w fun v w'=>v=.bool Af/\Bf w w':=by
 have e:BC .u8 fill=BI (fill.map BS):=by
  unfold BC BI;rw[EE];refine Ju fun x j=>?_
  have q:(BS x).toNat=x:=by
   have:=hf x j;rw[WY];exact IP J
  show Value.int .u8 (x:H)=Value.int .u8 (((BS x).toNat:Y):H);rw[q]
 rw[e]at i
 have:=Aej cap c0 c1 f (fun a h=>(g a h).ok) A c C (fill.map BS) A2 c2 l w ⟨ht,hm⟩ (xD hm) k.1 i (BF k.2.2 Bc) Bh
  (fun a h=>⟨C,(k.2.1 a h).files,BF (g a h).files Bc⟩) (fun a h=>⟨BF (g a h).path Bc,BF (g a h).content Bc,fun x j=>⟨BF ((g a h).each x j).1 Bc,BF ((g a h).each x j).2 Bc⟩⟩)
 rwa[DQ]at this
end
end Go.Proofs.YtkmlafmjaeeanaaGreatDoor
