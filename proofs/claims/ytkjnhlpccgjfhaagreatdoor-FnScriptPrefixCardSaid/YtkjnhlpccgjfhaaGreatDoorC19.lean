/- A part of the proof: lemmas (my texts, shortened by a program of mine). -/
import Derived.Test.YtkjnhlpccgjfhaaGreatDoorC16
import Derived.Test.YtkjnhlpccgjfhaaGreatDoorC18
set_option linter.all false
set_option maxRecDepth 100000
set_option maxHeartbeats 4000000
namespace Go.Proofs.YtkjnhlpccgjfhaaGreatDoor
open Go.RowKit
open Go.Proofs.Tryz
open And renaming intro->gC
open Bool renaming false->ak,true->ae
open Go renaming Calls->aY,Oper->bD,Value->ay,World->af,bodyPost_ret->aK,results->aJ
open Go.Act renaming put->aT
open Go.Ending renaming returned->aV
open Go.IntWalk renaming i64_in->bV
open Go.Obj renaming cells->al
open Go.Oper renaming upon->jC
open Go.Region renaming Mode->hY,noSelect->kb,ready->ef,wanted->jI
open Go.Value renaming agg->ba,bool->aw,int->ed,ownBlock->lL,slice->aa
open Go.World renaming block_lt_of_cell?->fX,cell?_setCell_other->c3,cell?_setCell_same->fZ,drew->dH,frozen?_setCell->pn,setCell->jc
open Go.World.ownsRow renaming lt->fs
open Int renaming le_refl->fE
open List renaming length_append->dm,map_append->g7,range->cN,replicate->bE
open Nat renaming lt_of_lt_of_le->cm
open Option renaming none->aj,some->Z
open _root_ renaming Array->bg,Bool->a8,Int->F,List->aU,Nat->J,absurd->bC,rfl->I
variable {p q:Prop}
structure rO (W0 W:af) (N NN f v:J):Prop where
 rf:av W W0.heap.size (aq f NN NN) (bE NN 0)
 c:(W.cell? (ad v 0)=Z (M N) /\ W.cell? (ad v 1)=Z (aq f NN NN) /\ W.cell? (ad v 2)=Z (aa aj 0 0) /\ W.cell? (ad v 3)=Z (aa aj 0 0)) /\ W.frozen? (ad v 0)=ak /\ W.frozen? (ad v 1)=ak /\ W.frozen? (ad v 2)=ak /\ W.frozen? (ad v 3)=ak
 vf:v≠f
 lo:W0.heap.size<=v
 lt:v<W.heap.size
 below:ap W0 W
theorem LN {d b:af} {f a c dy:J} (h:TypeId) (g:av b dy (aq c a a) (bE a 0)) (i:d.heap.size<=dy) (e:ap d b):
  rO d (b.alloc (al #[M f,aq c a a,aa aj 0 0,aa aj 0 0] h)) f a c b.heap.size:=by
 have j:=(g.block c I).2;exact⟨(g.below (az _ _)).mono i,o5 h _ _ _ _ I,E,e.size,ar,e.trans ((az b _).mono e.size)⟩
theorem Kc {e b:af} {g c z f a dy:J} (y:av b dy (aq z c c) (bE c 0)) (q:z=f) (v:e.heap.size<=dy) (k:a≠f) (d:e.heap.size<=a) (w:ap e b)
  (l:(b.cell? (ad a 0)=Z (M 0) /\ b.cell? (ad a 1)=Z (aa aj 0 0) /\ b.cell? (ad a 2)=Z (aa aj 0 0) /\ b.cell? (ad a 3)=Z (aa aj 0 0)) /\ b.frozen? (ad a 0)=ak /\ b.frozen? (ad a 1)=ak /\ b.frozen? (ad a 2)=ak /\ b.frozen? (ad a 3)=ak):
  rO e ((((b.setCell (ad a 0) (M g)).setCell (ad a 1) (aq f c c)).setCell (ad a 2) (aa aj 0 0)).setCell (ad a 3) (aa aj 0 0)) g c f a:=by
 subst q;obtain⟨⟨i,m,n,o⟩,r,s,t,u⟩:=l;have j:=mi b a (M g) (aq z c c) (aa aj 0 0) (aa aj 0 0);have x:=fX b _ i;refine⟨(fK y j (λ p=>k p.symm)).mono v,⟨⟨?_,?_,?_,?_⟩,?_,?_,?_,?_⟩,k,d,cm x j.size,(((w.setCell d _).setCell d _).setCell d _).setCell d _⟩;all_goals simp[go_sem,i,m,n,o,r,s,t,u]
structure jL (W:af) (B V gF N NN:J) (vL vD:ay) (ls ds:ac):Prop where
 v0: W.cell? (ad V 0)=Z (M N)
 v1: W.cell? (ad V 1)=Z (aq gF NN NN)
 v2: W.cell? (ad V 2)=Z vL
 v3: W.cell? (ad V 3)=Z vD
 g2: W.frozen? (ad V 2)=ak
 g3: W.frozen? (ad V 3)=ak
 f:av W B (aq gF NN NN) (bE NN 0)
 l:av W B vL ls
 d:av W B vD ds
 vf:V≠gF
 lo:B<=V
 lt:V<W.heap.size
 nl:∀k,vL.ownBlock=Z k->k≠V /\ k≠gF
 nd:∀k,vD.ownBlock=Z k->k≠V /\ k≠gF /\ vL.ownBlock≠Z k
theorem rv {b d h:af} {g:Option J} {c m:J} {n:ay} (e:ap b d) (k:d.grownBy h g):∀a,a<b.heap.size->g≠Z a->a≠c->(h.setCell (ad c m) n).heap[a]? =b.heap[a]? := λ a f l j =>
 (Below.heap_setCell _ _ _ _ j).trans ((k.block a (cm f e.size) (λ i=>l i.symm)).trans (e.block a f))
theorem nM {c e k:af} {i:Option J} {a h d:J} {p j:ay} (f:ap c e) (m:e.grownBy k i) (g:a<c.heap.size) (o:i≠Z a) (n:d≠h) (l: c.cell? (ad a d)=Z j):(k.setCell (ad a h) p).cell? (ad a d)=Z j :=
 (c3 _ _ _ _ (by intro b;injection b with _ b;exact n b.symm)).trans ((eR ((m.block a (cm g f.size) (λ b=>o b.symm)).trans (f.block a g))).trans l)
theorem rd {b c h:af} {g:Option J} {a m f:J} {n:ay} (d:ap b c) (k:c.grownBy h g) (e:a<b.heap.size) (l:g≠Z a) (j: b.frozen? (ad a f)=ak):(h.setCell (ad a m) n).frozen? (ad a f)=ak:=by
 rw[pn];exact(gK ((k.block a (cm e d.size) (λ i=>l i.symm)).trans (d.block a e))).trans j
theorem jL.put2 {v o l:af} {n d m t u:J} {k A:ay} {r w:ac} (b:jL v n d m t u k A r w) (f:ap v o) {e s p:J} {z:F} (E:av l n (aq e s p) (r++[z])) (g:o.grownBy l k.ownBlock) (q:k.ownBlock=Z e \/ e=o.heap.size):
  jL (l.setCell (ad d 2) (aq e s p)) n d m t u (aq e s p) A (r++[z]) w:=by
 have G:=f.size;have h:=b.lt;have i:k.ownBlock≠Z d:= λ a=>(b.nl d a).1 I
 have B:=(b.f.block m I).2;have y:e≠d:=by
  rcases q with a | a
  ·exact(b.nl e a).1
  ·omega
 have D:e≠m:=by
  rcases q with a | a
  ·exact(b.nl e a).2
  ·omega
 have C: l.cell? (ad d 2)=Z k:=(eR ((g.block d (cm h G) (λ a=>i a.symm)).trans (f.block d h))).trans b.v2;refine⟨nM f g h i aX b.v0,nM f g h i aX b.v1,fZ _ _ _ C,nM f g h i aX b.v3,rd f g h i b.g2,rd f g h i b.g3,?_,?_,?_,b.vf,b.lo,?_,?_,?_⟩
 ·refine av.same b.f λ c a=>?_
  obtain rfl:=dD a;exact rv f g c B (λ j=>(b.nl c j).2 I) (λ j=>b.vf j.symm)
 ·exact E.same λ c a=>by obtain rfl:=dD a;exact Below.heap_setCell _ _ _ _ y
 ·exact av.same b.d λ c a=>rv f g c (b.d.block c a).2 (b.nd c a).2.2 (b.nd c a).1
 ·have:=g.size;show d<(l.setCell _ _).heap.size;simp[jc];omega
 ·intro c a;obtain rfl:=dD a;exact⟨y,D⟩
 ·intro c a;refine⟨(b.nd c a).1,(b.nd c a).2.1,λ j=>?_⟩;obtain rfl:=dD j;rcases q with x | x
  ·exact(b.nd _ a).2.2 x
  ·have:=(b.d.block _ a).2;omega
theorem jL.put3 {v o l:af} {n c m t u:J} {A k:ay} {y q:ac} (a:jL v n c m t u A k y q) (e:ap v o) {d s p:J} {z:F} (E:av l n (aq d s p) (q++[z])) (f:o.grownBy l k.ownBlock) (r:k.ownBlock=Z d \/ d=o.heap.size):
  jL (l.setCell (ad c 3) (aq d s p)) n c m t u A (aq d s p) y (q++[z]):=by
 have G:=e.size;have i:=a.lt;have j:k.ownBlock≠Z c:= λ b=>(a.nd c b).1 I
 have B:=(a.f.block m I).2;have x:d≠c:=by
  rcases r with b | b
  ·exact(a.nd d b).1
  ·omega
 have D:d≠m:=by
  rcases r with b | b
  ·exact(a.nd d b).2.1
  ·omega
 have C: l.cell? (ad c 3)=Z k:=(eR ((f.block c (cm i G) (λ b=>j b.symm)).trans (e.block c i))).trans a.v3;refine⟨nM e f i j aX a.v0,nM e f i j aX a.v1,nM e f i j aX a.v2,fZ _ _ _ C,rd e f i j a.g2,rd e f i j a.g3,?_,?_,?_,a.vf,a.lo,?_,?_,?_⟩
 ·refine av.same a.f λ g b=>?_
  obtain rfl:=dD b;exact rv e f g B (λ h=>(a.nd g h).2.1 I) (λ h=>a.vf h.symm)
 ·refine av.same a.l λ g b=>rv e f g (a.l.block g b).2 (λ h=>(a.nd g h).2.2 b) (a.nl g b).1
 ·exact E.same λ g b=>by obtain rfl:=dD b;exact Below.heap_setCell _ _ _ _ x
 ·have:=f.size;show c<(l.setCell _ _).heap.size;simp[jc];omega
 ·exact a.nl
 ·intro g b;obtain rfl:=dD b;refine⟨x,D,λ h=>?_⟩;rcases r with w | w
  ·exact(a.nd _ w).2.2 h
  ·have:=(a.l.block _ h).2;omega
section
variable {P : Program} {md : hY} {ops : bg bD} {Q : Exit → Act → af → Prop} {S : af → Prop}
theorem jx (c:J) {d:bD} {v:ay} {h j:J} {e:bg a8} {a:Act} {b:af} (n:ops[c]? =Z d) (l:S b) (s:∀f,S f->(execOp a.eval d).run P f=.ok (.value v) f)
  (g:de P md ops Q S (λ _=>True) h j (e.setIfInBounds c ae) (a.put d.dst v) b)
  (q:kb ops=ae:=by kernel_rfl) (m:Region.free md ops e c=ae:=by kernel_rfl) (p:(ef md ops e).contains c=ae:=by kernel_rfl)
  (k:∀i a b,Q (.panic i) (a.put d.dst v) b->Q (.panic i) a b:=by exact(λ _ _ _ g=>g)) (o:c≠h:=by decide) (r:jI d (yielded ops a.tmps)=ae:=by rfl):
  de P md ops Q S (λ _=>True) h (j+1) e a b :=
 bX n q m p k o (Or.inl ⟨r,s⟩) l (λ _=>trivial) g
structure rL (S:af->Prop) (W K:Act->af->Prop):Prop where
 go:∀a' w',S w'->W a' w'->K a' w'
theorem pu (b:J) {e:bD} {g f:J} {d:bg a8} {c:Act} {h:af} (o:ops[b]? =Z e)
  (k:∀a:Act->af->Prop,rL S (de P md ops Q S (λ _=>True) g f (d.setIfInBounds b ae)) a->Oper.wp P e c h a Q)
  (p:ef md ops d=[b]:=by kernel_rfl) (q:jI e (yielded ops c.tmps)=ae:=by rfl):de P md ops Q S (λ _=>True) g (f+1) d c h :=
 e7 b o p q λ a n=>k a ⟨λ i j l m=>n i j l (λ _=>trivial) m⟩
theorem Og (c d:J) {j k:bD} {l g:J} {e:bg a8} {b:Act} {m:af} (v:ops[c]? =Z j) (w:ops[d]? =Z k)
  (t:∀a:Act->af->Prop,rL S (de P md ops Q S (λ _=>True) l g (e.setIfInBounds c ae)) a->Oper.wp P j b m a Q)
  (u:∀a:Act->af->Prop,rL S (de P md ops Q S (λ _=>True) l g (e.setIfInBounds d ae)) a->Oper.wp P k b m a Q)
  (o:ef md ops e=[c,d]:=by kernel_rfl) (y:jI j (yielded ops b.tmps)=ae:=by rfl) (z:jI k (yielded ops b.tmps)=ae:=by rfl):
  de P md ops Q S (λ _=>True) l (g+1) e b m:=by
 refine⟨λ s=>bC s (by rw[o];simp),λ p n=>?_⟩;rw[o] at n;have x:p=c \/ p=d:=by simpa using n
 rcases x with f | f
 ·subst f;unfold wpOp;simp only[v,y,if_true];exact Or.inl (t _ ⟨λ q r h i=>⟨⟨h,λ _=>trivial⟩,i⟩⟩)
 ·subst f;unfold wpOp;simp only[w,z,if_true];exact Or.inl (u _ ⟨λ q r h i=>⟨⟨h,λ _=>trivial⟩,i⟩⟩)
end
def Ds (a:J) (bb i:ac) (f:J) (j:Ending) (e:af):Prop :=
 ∃c d b h g:J,j=aV (ba #[M a,aq c (a*a) (a*a),aq d a h,aq b a g]) /\ c≠d /\ c≠b /\ d≠b /\
  av e f (aq c (a*a) (a*a)) (bE (a*a) 0) /\ av e f (aq d a h) bb /\ av e f (aq b a g) i
theorem Kd (ZI Z5:F) (YH YG:Option Addr) (i Z1 ZB:J) (w x:aU F) (g:af) (ZC:an g YH i w) (Zl:an g YG i x) (Y4:aI ZI w=ae) (Y3:aI Z5 x=ae):
  aY prog 84 #[ba #[.int .i64 ZI,aa YH i Z1],ba #[.int .i64 Z5,aa YG i ZB]] g
   λ t b=>Ds i ((cN i).map λ l=>O x l*aW w) ((cN i).map λ l=>O w l*aW x) g.heap.size t b /\ Below g.heap.size g b:=by
 obtain⟨ZD,XT,XY,Yw,Yf,Ye,_⟩:=bt Y4;obtain⟨_,XS,_,Yv,Yd,Yc,_⟩:=bt Y3;have XR:=(b8 ZD).1;have Yr:0<i:=by have:=ZC.len;omega
 have Yq:i<=16:=by have:=ZC.len;omega
 have Yb:U (∀e,e<i->0<=O w e /\ O w e<=1000000):= λ e Yu=>Yw e (by have:=ZC.len;omega)
 have Ya:U (∀e,e<i->0<=O x e /\ O x e<=1000000):= λ e Yu=>Yv e (by have:=Zl.len;omega)
 obtain⟨R,Y,rfl,Xu,Yi⟩:=ZC.cell Yr;obtain⟨Z4,ZV,rfl,Xt,Yh⟩:=Zl.cell Yr;have X9:U (∀e,e<i-> g.cell? ⟨R,Y+e,aj⟩=Z (.int .i64 (O w e))):=Yi;have X8:U (∀e,e<i-> g.cell? ⟨Z4,ZV+e,aj⟩=Z (.int .i64 (O x e))):=Yh;have YM:U (∀b,an b (Z ⟨R,Y,aj⟩) i w->aY prog 76 #[ba #[.int .i64 ZI,aa (Z ⟨R,Y,aj⟩) i Z1]] b λ t M=>t=aV (.int .i64 (aW w)) /\ Below b.heap.size b M):= λ b Z7=>hn ZI _ _ _ w b Z7 Y4
 have YL:U (∀b,an b (Z ⟨Z4,ZV,aj⟩) i x->aY prog 76 #[ba #[.int .i64 Z5,aa (Z ⟨Z4,ZV,aj⟩) i ZB]] b λ t M=>t=aV (.int .i64 (aW x)) /\ Below b.heap.size b M):= λ b Z7=>hn Z5 _ _ _ x b Z7 Y3
 have X7:=ab ZC;have X6:=ab Zl;obtain⟨C,Yk⟩:∃YS,aW w=YS:=⟨_,I⟩;obtain⟨D,Yj⟩:∃YS,aW x=YS:=⟨_,I⟩;rw[Yk] at Yf Ye YM ⊢;rw[Yj] at Yd Yc YL ⊢;have XV:i*i<=16*16:=Nat.mul_le_mul Yq Yq;obtain⟨s,Y7⟩:∃s,i*i=s:=⟨_,I⟩;have YN:=ab Y7;have Xv:IntKind.i64.wrap ((i:F)*(i:F))=(s:F):=by
  have ZL:((i:F)*(i:F))=((i*i:J):F):=ar;rw[ZL,Y7];exact bV _ E
 have Xy:s<=256:=E;clear XT XS XY Yw Yv ZD XR Y4 Y3 Yi Yh ZC Zl Yk Yj Y7 XV;go_enter func84,ntmps84;go_wp2;obtain⟨r,Z6⟩:∃ZQ,((g.alloc (al #[.int .i64 ZI,aa (Z ⟨R,Y,aj⟩) i Z1] 29)).alloc (al #[.int .i64 Z5,aa (Z ⟨Z4,ZV,aj⟩) i ZB] 29)).alloc (al #[.int .i64 0,aa aj 0 0,aa aj 0 0,aa aj 0 0] 94)=ZQ:=⟨_,I⟩;rw[Z6];have YB:Below g.heap.size g r:=by rw[<- Z6];exact aD
 have V: r.cell? ⟨g.heap.size,0,aj⟩=Z (.int .i64 ZI):=by rw[<- Z6];simp
 have v: r.cell? ⟨g.heap.size,1,aj⟩=Z (aa (Z ⟨R,Y,aj⟩) i Z1):=by rw[<- Z6];simp
 have W: r.cell? ⟨g.heap.size+1,0,aj⟩=Z (.int .i64 Z5):=by rw[<- Z6];simp
 have Q: r.cell? ⟨g.heap.size+1,1,aj⟩=Z (aa (Z ⟨Z4,ZV,aj⟩) i ZB):=by rw[<- Z6];simp
 obtain⟨⟨ZU,ZT,ZS,ZR⟩,ZP,ZO,ZN,ZM⟩:=o5 (W:=(g.alloc (al #[.int .i64 ZI,aa (Z ⟨R,Y,aj⟩) i Z1] 29)).alloc (al #[.int .i64 Z5,aa (Z ⟨Z4,ZV,aj⟩) i ZB] 29)) (A:=g.heap.size+1+1) 94 (.int .i64 0) (aa aj 0 0) (aa aj 0 0) (aa aj 0 0) ar;rw[Z6] at ZU ZT ZS ZR ZP ZO ZN ZM;have YI:U (r.heap.size=g.heap.size+1+1+1):=by rw[U,<- Z6];simp
 clear Z6;refine jT (ι:=J×J) (λ X5 ZW=>(((((((((((((X5.put (Z 7) (.pointer (Z ⟨g.heap.size,1,aj⟩))).put (Z 8) (aa (Z ⟨R,Y,aj⟩) i Z1)).put (Z 9) (.int .i64 i)).put (Z 10) (.pointer (Z ⟨g.heap.size,1,aj⟩))).put (Z 11) (aa (Z ⟨R,Y,aj⟩) i Z1)).put (Z 12) (.int .i64 i)).put (Z 13) (.pointer (Z ⟨g.heap.size,1,aj⟩))).put (Z 14) (aa (Z ⟨R,Y,aj⟩) i Z1)).put (Z 15) (.int .i64 i)).put (Z 16) (.int .i64 s)).put (Z 17) (aa (Z ⟨ZW.1,0,aj⟩) s s)).put (Z 18) (ba #[.int .i64 i,aa (Z ⟨ZW.1,0,aj⟩) s s,aa aj 0 0,aa aj 0 0])).put (Z 5) (.pointer (Z ⟨ZW.2,0,aj⟩)))) (λ ZW ZQ=>rO r ZQ i s ZW.1 ZW.2) ?_ ?_
 ·refine gJ (λ b:af=>Below r.heap.size r b) (λ _=>True) 99 ah ?_;change de _ _ _ _ _ _ _ _ _ _ (dH r);have d:Below r.heap.size r (dH r):=bI r;refine jx 0 (v:=?_) I d (λ b f=>?_) ?_;rotate_left
  ·have z:=ag f v;go_simp;first | done | rfl
  simp only[aT];refine jx 1 (v:=?_) I d (λ b f=>?_) ?_;rotate_left
  ·have z:=ag f v;go_simp;first | done | rfl
  simp only[aT];refine jx 2 (v:=?_) I d (λ b f=>?_) ?_;rotate_left
  ·have z:=ag f v;go_simp;first | done | rfl
  simp only[aT];refine jx 3 (v:=?_) I d (λ b f=>?_) ?_;rotate_left
  ·have z:=ag f v;go_simp;first | done | rfl
  simp only[aT];refine jx 4 (v:=?_) I d (λ b f=>?_) ?_;rotate_left
  ·have z:=ag f v;go_simp;first | done | rfl
  simp only[aT];refine jx 5 (v:=?_) I d (λ b f=>?_) ?_;rotate_left
  ·have z:=ag f v;go_simp;first | done | rfl
  simp only[aT];refine jx 6 (v:=?_) I d (λ b f=>?_) ?_;rotate_left
  ·have z:=ag f v;go_simp;first | done | rfl
  simp only[aT];refine jx 7 (v:=?_) I d (λ b f=>?_) ?_;rotate_left
  ·have z:=ag f v;go_simp;first | done | rfl
  simp only[aT];refine jx 8 (v:=?_) I d (λ b f=>?_) ?_;rotate_left
  ·have z:=ag f v;go_simp;first | done | rfl
  simp only[aT];refine jx 9 (v:=.int .i64 (s:F)) I d (λ b f=>?_) ?_
  ·go_simp
  simp only[aT];refine Og (md:=.any) 10 12 I I ?_ ?_ ah a6 a6
  ·intro k j;go_simp;refine j1 (w:=r.drew) (X:= λ YP=>jC prog _ _ _ _ (YP.andThen _)) s E ?_;intro q Y0 A XM;go_simp;have B:Below r.heap.size r q:=e8 A;refine y3 ?_;clear j k;refine pu (md:=.any) 12 I ?_ ah a6;intro k j;go_simp;refine j.go _ _ (B.alloc B.size _) ?_;clear j k;refine pu (md:=.any) 13 I ?_ ah a6;intro k j;go_simp;refine j.go _ _ (by first | exact B.alloc B.size _ | exact((((B.alloc B.size _).setCell B.size _).setCell B.size _).setCell B.size _).setCell B.size _) ?_;refine eh ?_;clear j k;refine⟨(r.heap.size,q.heap.size),?_,?_⟩
   ·simp[aT]
   ·exact LN _ Y0 aZ B
  ·intro k j;go_simp;have Y6:Below r.heap.size r (r.drew.alloc (al #[.int .i64 0,aa aj 0 0,aa aj 0 0,aa aj 0 0] 94)):=(bI r).alloc aZ _;refine j.go _ _ Y6 ?_;clear j k;refine pu (md:=.any) 10 I ?_ ah a6;intro k j;go_simp;refine j1 (w:=r.drew.alloc _) (X:= λ YP=>jC prog _ _ _ _ (YP.andThen _)) s E ?_;intro q Y0 A XM;go_simp;have B:Below r.heap.size r q:=Y6.trans (A.mono Y6.size);obtain⟨⟨YR,z,Zw,YQ⟩,Zf,Ze,Z0,ZZ⟩:=o5 (W:=r.drew) (A:=r.heap.size) 94 (.int .i64 0) (aa aj 0 0) (aa aj 0 0) (aa aj 0 0) I;have XL:=ag A YR;have XK:=ag A z;have XJ:=ag A Zw;have XI:=ag A YQ;have X2:=aB A YR Zf;have X1:=aB A z Ze;have X0:=aB A Zw Z0;have XZ:=aB A YQ ZZ;clear YR z Zw YQ Zf Ze Z0 ZZ;refine y3 ?_;clear j k;refine pu (md:=.any) 13 I ?_ ah a6;intro k j;go_simp;refine j.go _ _ ((((B.setCell aZ _).setCell aZ _).setCell aZ _).setCell aZ _) ?_;refine eh ?_;clear j k;refine⟨(r.heap.size+1,r.heap.size),?_,?_⟩
   ·simp[aT]
   ·exact Kc Y0 ar ar E aZ B ⟨⟨XL,XK,XJ,XI⟩,X2,X1,X0,XZ⟩
 ·rintro⟨ZY,n⟩ Zk Z9;simp only at Z9;have XN:=YI.o;have Zb:Below g.heap.size g Zk:=au YB Z9.below;have N:=Z9.below;obtain⟨m,Za⟩:∃m,r.heap.size=m:=⟨_,I⟩;have p:U (jL Zk m n ZY i s (aa aj 0 0) (aa aj 0 0) [] []):=by
   obtain⟨⟨X4,X3,ZF,ZE⟩,Zf,Ze,Z0,ZZ⟩:=Z9.c;rw[U,<- Za];exact⟨X4,X3,ZF,ZE,Z0,ZZ,Z9.rf,av.nil _ _,av.nil _ _,Z9.vf,Z9.lo,Z9.lt,λ e t=>by simp[lL] at t,λ e t=>by simp[lL] at t⟩
  replace V:=ag N V;replace v:=ag N v;replace W:=ag N W;replace Q:=ag N Q;replace ZP:=aB N ZU ZP;replace ZO:=aB N ZT ZO;replace ZN:=aB N ZS ZN;replace ZM:=aB N ZR ZM;replace ZU:=ag N ZU;replace ZT:=ag N ZT;replace ZS:=ag N ZS;replace ZR:=ag N ZR;have Zr:m<=n:=by rw[<- Za];exact Z9.lo
  have YA:g.heap.size+1+1+1=m:=E;have G:=ab YA;clear Z9 Za N YB YI XN YA;have Zu:=ab (gC V (gC v (gC W Q)));have Z2:=ab (gC (gC ZU (gC ZT (gC ZS ZR))) (gC ZP (gC ZO (gC ZN ZM))));clear V W Q ZU ZT ZS ZR ZP ZO ZN ZM;go_wp2;go_loopg [6] i (λ XH ZW wr=>∃(e:J) (Z8 X:ay),e<=i /\ XH=i-e /\ ZW=.int .i64 e /\ U (jL wr m n ZY i s Z8 X ((cN e).map λ l=>O x l*C) ((cN e).map λ l=>O w l*D)) /\ Below m Zk wr)
  case atStart=>exact⟨0,_,_,E,E,I,p,Below.refl _ _⟩
  case round =>
   clear p v;obtain⟨e,Z8,X,Yu,rfl,rfl,p,y⟩:=hrel;refine zf ?_;intro V v W Q;by_cases Zq:e<i
   ·have Xx:(0:F)<=(e:F):=E;have Xw:(e:F)<(i:F):=E;have Y9:Below g.heap.size g wr:=Zb.trans (y.mono (by have:=G.o;omega));obtain⟨ZH,Zp⟩:∃YO,O x e=YO:=⟨_,I⟩;have YK:=ab Zp;have YF: wr.cell? ⟨Z4,ZV+e,aj⟩=Z (.int .i64 ZH):=by rw[<- Zp];exact(Y9.cell (p:=⟨Z4,ZV+e,aj⟩) (by assumption)).trans (X8.o e Zq)
    have Zn:=Ya.o e Zq;rw[Zp] at Zn;have XP:=(i4 Zn.1 Zn.2 Yf Ye).2.2;have Yy:=X7.o.below Y9;have Zj:U (wr.ownsRow m 3 1 Z8 e (((cN e).map λ l=>O x l*C).map (ed .i64))):=by
     have a:=p.o.l;unfold av at a;rw[show ((cN e).map λ l=>O x l*C).length=e from ar] at a;exact a
    have ZF:=p.o.v2;have Z0:=p.o.g2;have YW:m<=wr.heap.size:=by have:=p.o.lt;omega
    have Yo:Z4<m:=by have:=G.o;omega
    have Y2:∀u,(Z8).ownBlock=Z u->n≠u:= λ u t=>(p.o.nl u t).1.symm
    clear Zp;go_wp2_with fail;refine gJ (λ b=>Below m wr b) (λ b=>b.cell? ⟨n,2,aj⟩=Z Z8 /\ b.frozen? ⟨n,2,aj⟩=ak) 11 ah ?_;refine lY ?_;have d:Below m wr (dH wr):=(bI wr).mono YW;have c:(dH wr).cell? ⟨n,2,aj⟩=Z Z8 /\ (dH wr).frozen? ⟨n,2,aj⟩=ak:=⟨ZF,Z0⟩;refine p4 ?_;refine bX (i:=3) (v:=?_) I ah ah ah (λ _ _ _ a=>a) aX (Or.inl ⟨a6,λ b f=>?_⟩) d (λ _=>c) ?_;rotate_left
    ·have z:=(f.cell (p:=⟨g.heap.size+1,1,aj⟩) (show g.heap.size+1<m by have:=G.o;omega)).trans Q;go_simp;first | done | rfl
    simp only[aT];refine ta ?_;refine bX (i:=6) (v:=?_) I ah ah ah (λ _ _ _ a=>a) aX (Or.inl ⟨a6,λ b f=>?_⟩) d (λ _=>c) ?_;rotate_left
    ·have z:=(f.cell (p:=⟨Z4,ZV+e,aj⟩) Yo).trans YF;go_simp;first | done | rfl
    simp only[aT];refine bX (i:=7) (v:=?_) I ah ah ah (λ _ _ _ a=>a) aX (Or.inl ⟨a6,λ b f=>?_⟩) d (λ _=>c) ?_;rotate_left
    ·have z:=(f.cell (p:=⟨g.heap.size,0,aj⟩) (show g.heap.size<m by have:=G.o;omega)).trans V;have Zw:=(f.cell (p:=⟨g.heap.size,1,aj⟩) (show g.heap.size<m by have:=G.o;omega)).trans v;go_simp;first | done | rfl
    simp only[aT];refine oi ?_;intro k j;go_simp;refine(YM.o _ (Yy.below (bI _))).mono ?_;rintro t q ⟨rfl,A⟩;have K:=e8 A;have ZK:=K.size;have H:Below m wr q:=K.mono YW;have o: q.cell? ⟨n,2,aj⟩=Z Z8 /\ q.frozen? ⟨n,2,aj⟩=ak:=⟨ag K ZF,aB K ZF Z0⟩;go_simp;refine j _ _ H (λ _=>o) ?_;clear j k d c;have d:=H;have c:=o;clear H o;refine ol ?_;refine m0 ?_;intro k j;go_simp;have H:Below m wr (q.alloc (al #[.int .i64 (ZH*C)] 3)):=d.alloc E _;have o:(q.alloc (al #[.int .i64 (ZH*C)] 3)).cell? ⟨n,2,aj⟩=Z Z8 /\ (q.alloc (al #[.int .i64 (ZH*C)] 3)).frozen? ⟨n,2,aj⟩=ak:=⟨ag (az q _) c.1,aB (az q _) c.1 c.2⟩;refine j _ _ H (λ _=>o) ?_;clear j k d c;obtain⟨YU,Y5,YZ,YY,YX⟩:=info_parts ig;refine om ?_;intro k j;refine wp_append_lies _ _ _ 27 I m 3 YU (.int .i64 0) 1 8 underlying27 Y5 YZ YY YX I aX Z8 e (((cN e).map λ l=>O x l*C).map (ed .i64)) I (nC Zj.o (Below.trans K ((az q _).mono ZK))) ⟨q.heap.size,0,aj⟩ 1 1 [.int .i64 (ZH*C)] I I (nR q _ _) (λ Z5 Zx=>by simp at Zx;subst Zx;rfl) aX (by unfold maxLen;omega) E (by simp;omega) _ I (λ u S P Z7 T ZL Zc=>?_);have Zz:=Zj.o;have d:Below m wr P:=cV H (by simp;omega) T (λ l t=>(fs Zz l t).1);have c: P.cell? ⟨n,2,aj⟩=Z Z8 /\ P.frozen? ⟨n,2,aj⟩=ak:=⟨nS T o.1 Y2,nQ T o.1 o.2 Y2⟩;refine j _ _ d (λ _=>c) ?_;clear j k o;refine p6 ?_;have YT:=c.1;have Zd:=c.2;refine m7 ?_;intro k j;refine j _ _ (d.setCell Zr _) (λ a=>bC a aX) ?_;refine eh ?_;clear j k;have ZA:Below wr.heap.size wr (q.alloc (al #[.int .i64 (ZH*C)] 3)):=Below.trans K ((az q _).mono ZK);have Zy:av P m (aa (Z ⟨u,0,aj⟩) (e+1) S) (((cN e).map λ l=>O x l*C)++[ZH*C]):=by
     unfold av;rw[dm,g7,show ((cN e).map λ l=>O x l*C).length=e from ar];exact Z7
    have Z3:U (jL (P.setCell ⟨n,2,aj⟩ (aa (Z ⟨u,0,aj⟩) (e+1) S)) m n ZY i s (aa (Z ⟨u,0,aj⟩) (e+1) S) X ((cN (e+1)).map λ l=>O x l*C) ((cN e).map λ l=>O w l*D)):=by
     have a:=p.o.put2 ZA Zy T ZL;rw[<- YK.o] at a;rw[U,qO (λ l=>O x l*C) e];exact a
    obtain⟨L,ZJ⟩:∃ZQ,P.setCell ⟨n,2,aj⟩ (aa (Z ⟨u,0,aj⟩) (e+1) S)=ZQ:=⟨_,I⟩;have Yz:Below m Zk L:=by rw[<- ZJ];exact y.trans (d.setCell Zr _)
    rw[ZJ] at Z3 ⊢;obtain⟨XG,Ym⟩:∃Zv,aa (Z ⟨u,0,aj⟩) (e+1) S=Zv:=⟨_,I⟩;rw[Ym] at Z3;clear ZJ ZA Zy YT Zd c d H Z7 T ZL Zc K ZK A Zz Yy XP Zn YF ZF Z0 Y2 Zj YK Y9 YW Yo p y V v W Q Ym;obtain⟨Yg,rfl⟩:∃Zv,Zv=XG:=⟨_,I⟩;have p:=Z3;have y:=Yz;clear Z3 Yz;refine zf ?_;intro V v W Q;have Y8:Below g.heap.size g L:=Zb.trans (y.mono (by have:=G.o;omega));obtain⟨ZG,Zo⟩:∃YO,O w e=YO:=⟨_,I⟩;have YJ:=ab Zo;have YE: L.cell? ⟨R,Y+e,aj⟩=Z (.int .i64 ZG):=by rw[<- Zo];exact(Y8.cell (p:=⟨R,Y+e,aj⟩) (by assumption)).trans (X9.o e Zq)
    have Zm:=Yb.o e Zq;rw[Zo] at Zm;have XO:=(i4 Zm.1 Zm.2 Yd Yc).2.2;have Yx:=X6.o.below Y8;have Zi:U (L.ownsRow m 3 1 X e (((cN e).map λ l=>O w l*D).map (ed .i64))):=by
     have a:=p.o.d;unfold av at a;rw[show ((cN e).map λ l=>O w l*D).length=e from ar] at a;exact a
    have ZE:=p.o.v3;have ZZ:=p.o.g3;have YV:m<=L.heap.size:=by have:=p.o.lt;omega
    have Yn:R<m:=by have:=G.o;omega
    have Y1:∀u,(X).ownBlock=Z u->n≠u:= λ u t=>(p.o.nd u t).1.symm
    clear Zo;go_wp2_with fail;refine gJ (λ b=>Below m L b) (λ b=>b.cell? ⟨n,3,aj⟩=Z X /\ b.frozen? ⟨n,3,aj⟩=ak) 11 ah ?_;refine lY ?_;have d:Below m L (dH L):=(bI L).mono YV;have c:(dH L).cell? ⟨n,3,aj⟩=Z X /\ (dH L).frozen? ⟨n,3,aj⟩=ak:=⟨ZE,ZZ⟩;refine p4 ?_;refine bX (i:=3) (v:=?_) I ah ah ah (λ _ _ _ a=>a) aX (Or.inl ⟨a6,λ b f=>?_⟩) d (λ _=>c) ?_;rotate_left
    ·have z:=(f.cell (p:=⟨g.heap.size,1,aj⟩) (show g.heap.size<m by have:=G.o;omega)).trans v;go_simp;first | done | rfl
    simp only[aT];refine ta ?_;refine bX (i:=6) (v:=?_) I ah ah ah (λ _ _ _ a=>a) aX (Or.inl ⟨a6,λ b f=>?_⟩) d (λ _=>c) ?_;rotate_left
    ·have z:=(f.cell (p:=⟨R,Y+e,aj⟩) Yn).trans YE;go_simp;first | done | rfl
    simp only[aT];refine bX (i:=7) (v:=?_) I ah ah ah (λ _ _ _ a=>a) aX (Or.inl ⟨a6,λ b f=>?_⟩) d (λ _=>c) ?_;rotate_left
    ·have z:=(f.cell (p:=⟨g.heap.size+1,0,aj⟩) (show g.heap.size+1<m by have:=G.o;omega)).trans W;have Zw:=(f.cell (p:=⟨g.heap.size+1,1,aj⟩) (show g.heap.size+1<m by have:=G.o;omega)).trans Q;go_simp;first | done | rfl
    simp only[aT];refine oi ?_;intro k j;go_simp;refine(YL.o _ (Yx.below (bI _))).mono ?_;rintro t q ⟨rfl,A⟩;have K:=e8 A;have ZK:=K.size;have H:Below m L q:=K.mono YV;have o: q.cell? ⟨n,3,aj⟩=Z X /\ q.frozen? ⟨n,3,aj⟩=ak:=⟨ag K ZE,aB K ZE ZZ⟩;go_simp;refine j _ _ H (λ _=>o) ?_;clear j k d c;have d:=H;have c:=o;clear H o;refine ol ?_;refine m0 ?_;intro k j;go_simp;have H:Below m L (q.alloc (al #[.int .i64 (ZG*D)] 3)):=d.alloc E _;have o:(q.alloc (al #[.int .i64 (ZG*D)] 3)).cell? ⟨n,3,aj⟩=Z X /\ (q.alloc (al #[.int .i64 (ZG*D)] 3)).frozen? ⟨n,3,aj⟩=ak:=⟨ag (az q _) c.1,aB (az q _) c.1 c.2⟩;refine j _ _ H (λ _=>o) ?_;clear j k d c;obtain⟨YU,Y5,YZ,YY,YX⟩:=info_parts ig;refine om ?_;intro k j;refine wp_append_lies _ _ _ 27 I m 3 YU (.int .i64 0) 1 8 underlying27 Y5 YZ YY YX I aX X e (((cN e).map λ l=>O w l*D).map (ed .i64)) I (nC Zi.o (Below.trans K ((az q _).mono ZK))) ⟨q.heap.size,0,aj⟩ 1 1 [.int .i64 (ZG*D)] I I (nR q _ _) (λ Z5 Zx=>by simp at Zx;subst Zx;rfl) aX (by unfold maxLen;omega) E (by simp;omega) _ I (λ u S P Z7 T ZL Zc=>?_);have Zz:=Zi.o;have d:Below m L P:=cV H (by simp;omega) T (λ l t=>(fs Zz l t).1);have c: P.cell? ⟨n,3,aj⟩=Z X /\ P.frozen? ⟨n,3,aj⟩=ak:=⟨nS T o.1 Y1,nQ T o.1 o.2 Y1⟩;refine j _ _ d (λ _=>c) ?_;clear j k o;refine p6 ?_;have YT:=c.1;have Zd:=c.2;refine m7 ?_;intro k j;refine j _ _ (d.setCell Zr _) (λ a=>bC a aX) ?_;refine eh ?_;clear j k;have ZA:Below L.heap.size L (q.alloc (al #[.int .i64 (ZG*D)] 3)):=Below.trans K ((az q _).mono ZK);have Zy:av P m (aa (Z ⟨u,0,aj⟩) (e+1) S) (((cN e).map λ l=>O w l*D)++[ZG*D]):=by
     unfold av;rw[dm,g7,show ((cN e).map λ l=>O w l*D).length=e from ar];exact Z7
    have Z3:U (jL (P.setCell ⟨n,3,aj⟩ (aa (Z ⟨u,0,aj⟩) (e+1) S)) m n ZY i s Yg (aa (Z ⟨u,0,aj⟩) (e+1) S) ((cN (e+1)).map λ l=>O x l*C) ((cN (e+1)).map λ l=>O w l*D)):=by
     have a:=p.o.put3 ZA Zy T ZL;rw[<- YJ.o] at a;rw[U,qO (λ l=>O w l*D) e];exact a
    obtain⟨XE,ZJ⟩:∃ZQ,P.setCell ⟨n,3,aj⟩ (aa (Z ⟨u,0,aj⟩) (e+1) S)=ZQ:=⟨_,I⟩;have XX:Below m Zk XE:=by rw[<- ZJ];exact y.trans (d.setCell Zr _)
    rw[ZJ] at Z3 ⊢;obtain⟨XF,Yl⟩:∃Zv,aa (Z ⟨u,0,aj⟩) (e+1) S=Zv:=⟨_,I⟩;rw[Yl] at Z3;clear ZJ ZA Zy YT Zd c d H Z7 T ZL Zc K ZK A Zz Yx XO Zm YE ZE ZZ Y1 Zi YJ Y8 YV Yn p y V v W Q Yl;go_wp2;go_roundg (i-(e+1))
    case measure=>omega
    case rel=>exact⟨e+1,Yg,XF,E,I,by go_num,Z3,XX⟩
   ·have XU:e=i:=E;have Ys:((cN e).map λ l=>O x l*C).length=e:=ar;have Yt:((cN e).map λ l=>O w l*D).length=e:=ar;obtain⟨Zs,Zg,YC,XA,Xz,_⟩:=p.o.l.form E;obtain⟨Zt,Zh,YD,XD,XC,_⟩:=p.o.d.form E;rw[Ys] at YC;rw[Yt] at YD;subst YC YD;subst XU;have ZX:g.heap.size+1+1<m:=by have:=G.o;omega
    have ZU:=(y.cell (p:=⟨g.heap.size+1+1,0,aj⟩) ZX).trans Z2.o.1.1;have ZT:=(y.cell (p:=⟨g.heap.size+1+1,1,aj⟩) ZX).trans Z2.o.1.2.1;have ZS:=(y.cell (p:=⟨g.heap.size+1+1,2,aj⟩) ZX).trans Z2.o.1.2.2.1;have ZR:=(y.cell (p:=⟨g.heap.size+1+1,3,aj⟩) ZX).trans Z2.o.1.2.2.2;have ZP:=(y.frozen (p:=⟨g.heap.size+1+1,0,aj⟩) ZX).trans Z2.o.2.1;have ZO:=(y.frozen (p:=⟨g.heap.size+1+1,1,aj⟩) ZX).trans Z2.o.2.2.1;have ZN:=(y.frozen (p:=⟨g.heap.size+1+1,2,aj⟩) ZX).trans Z2.o.2.2.2.1;have ZM:=(y.frozen (p:=⟨g.heap.size+1+1,3,aj⟩) ZX).trans Z2.o.2.2.2.2;have Xs:=p.o.v0;have Xr:=p.o.v1;have Xq:=p.o.v2;have Xp:=p.o.v3;have XW:Below g.heap.size g wr:=Zb.trans (y.mono E);clear Ys Yt;go_wp2;refine aK (v:=ba #[.int .i64 e,aa (Z ⟨ZY,0,aj⟩) s s,aa (Z ⟨Zs,0,aj⟩) e Zg,aa (Z ⟨Zt,0,aj⟩) e Zh]) (by simp[aJ,results84,go_sem,ZU,ZT,ZS,ZR,ZP,ZO,ZN,ZM]) I ?_;have ZD:=mi wr (g.heap.size+1+1) (.int .i64 (e:F)) (aa (Z ⟨ZY,0,aj⟩) s s) (aa (Z ⟨Zs,0,aj⟩) e Zg) (aa (Z ⟨Zt,0,aj⟩) e Zh);have XB:=(p.o.f.block ZY I).1;have XQ:=p.o.nl Zs I;have Yp:=p.o.nd Zt I;refine⟨⟨ZY,Zs,Zt,Zg,Zh,by rw[YN.o],λ t=>XQ.2 t.symm,λ t=>Yp.2.1 t.symm,λ t=>Yp.2.2 (by rw[<- t];rfl),?_,?_,?_⟩,?_⟩
    ·rw[YN.o];exact(fK p.o.f ZD E).mono E
    ·exact(fK p.o.l ZD E).mono E
    ·exact(fK p.o.d ZD E).mono E
    ·exact(((XW.setCell (show g.heap.size<=g.heap.size+1+1 from E) _).setCell (show g.heap.size<=g.heap.size+1+1 from E) _).setCell (show g.heap.size<=g.heap.size+1+1 from E) _).setCell (show g.heap.size<=g.heap.size+1+1 from E) _
theorem re (c:J->F) {b a:J} (d:a<b):O ((cN b).map c) a=c a:=by
 rw[cK _ _ (by simpa using d)];simp
theorem Ek (x g:F) (n o:aG) (q u b v:J) (c d:ac) (m:a8) (Zj:af) (w:an Zj n q c) (C:an Zj o b d) (H:m=ae↔cJ x c g d=ae /\ kR bY q c d (aW c) (aW d)):
  aC 33 #[am x n q u,am g o b v] Zj (aw m):=by
 obtain⟨i,A⟩:∃i,(Zj.alloc (al #[M x,aa n q u] 29)).alloc (al #[M g,aa o b v] 29)=i:=⟨_,I⟩;have G:ap Zj i:=by rw[<- A];exact aD
 have Z8: i.cell? (ad Zj.heap.size 0)=Z (M x):=by rw[<- A];simp
 have Z7: i.cell? (ad Zj.heap.size 1)=Z (aa n q u):=by rw[<- A];simp
 have Z6: i.cell? (ad (Zj.heap.size+1) 0)=Z (M g):=by rw[<- A];simp
 have Z5: i.cell? (ad (Zj.heap.size+1) 1)=Z (aa o b v):=by rw[<- A];simp
 have Y:=w.below G;have Z9:=C.below G;have D:=ab (oy x g n o q u b v c d i Y Z9);cases p:cJ x c g d
 ·have ZB:U (m=ak):=by
   cases m
   ·rfl
   ·have:=(H.1 I).1;rw[p] at this;cases this
  rw[p] at D
  clear H p w C
  go_enter func33,ntmps33
  go_wp2_with fail
  refine D.o.mono ?_;rintro j ZL ⟨rfl,k⟩
  go_wp2
  go_ret
  exact⟨by rw[ZB.o];rfl,au G k⟩
 ·obtain⟨S,T,rfl,ZP⟩:=fN p;obtain⟨ZN,Zo,Zy,ZT,Z4,Z3,_⟩:=bt S;obtain⟨_,Zn,_,ZS,Z2,Z1,_⟩:=bt T;have Zm:=b8 ZN;obtain rfl:b=q:=by rw[<- w.len,<- C.len,ZP]
  have ZO:b<=16:=by have:=w.len;omega
  have Z0:=w.len;have ZZ:=C.len;have y:∀e,e<b->0<=O c e /\ O c e<=1000000:= λ e Zp=>ZT e E
  have z:∀e,e<b->0<=O d e /\ O d e<=1000000:= λ e Zp=>ZS e E
  have ZE:U (m=ae↔jb bY b (λ a=>O d a*aW c) (λ a=>O c a*aW d)):=by
   rw[U,H,CH];exact⟨λ l=>l.2,λ l=>⟨p,l⟩⟩
  have ZD:U (∀a,a<b->O d a*aW c<=1000000000000):= λ a f=>(i4 (z a f).1 (z a f).2 Z4 Z3).2.1
  have ZH:U (∀a,a<b->O c a*aW d<=1000000000000):= λ a f=>(i4 (y a f).1 (y a f).2 Z2 Z1).2.1
  have ZA:U (bu (λ a=>O d a*aW c) b=bu (λ a=>O c a*aW d) b):=by
   have j:∀(r:ac) (K:F),r.length=b->bu (λ a=>O r a*K) b=aW r*K:= λ r K Zl=>by
    rw[jo (g:= λ a=>K*O r a) (λ e _=>Int.mul_comm _ _),CF,Int.mul_comm];congr 1;have Zz:=CG (λ _=>1) r b;have ZU:=nL r;rw[Zl] at ZU;rw[ZU,Zz];exact jo λ e _=>(Int.one_mul _).symm
   rw[U,j d _ ZZ,j c _ Z0,Int.mul_comm]
  have ZF:U (dV bY b (λ a=>O d a*aW c) (λ a=>O c a*aW d) (λ _ _=>0) (O ((cN b).map λ a=>O d a*aW c)) (O ((cN b).map λ a=>O c a*aW d))):=by
   refine⟨λ _ _ _ _=>fE _,λ _ _ _ _ l=>bC I l,λ a f=>?_,λ t B=>?_,λ a f=>?_,λ t B=>?_⟩
   ·rw[ks (λ _ _=>rfl),re _ f];omega
   ·rw[ks (λ _ _=>rfl),re _ B];omega
   ·rw[re _ f];exact(i4 (z a f).1 (z a f).2 Z4 Z3).1
   ·rw[re _ B];exact(i4 (y t B).1 (y t B).2 Z2 Z1).1
  have ZC:U (∀s,ap i s->aY prog 84 #[am g n b u,am g o b v] s λ j ZY=>Ds b ((cN b).map λ a=>O d a*aW c) ((cN b).map λ a=>O c a*aW d) s.heap.size j ZY /\ ap s ZY):= λ s l=>Kd g g n o b u v c d s (Y.below l) (Z9.below l) S T
  rw[p] at D;clear H p w C ZN Zo Zy ZT ZS Zn Zm S T ZP Z0 ZZ y z Z4 Z3 Z2 Z1 Y Z9;go_enter func33,ntmps33;go_wp2_with fail;refine D.o.mono ?_;rintro j ZL ⟨rfl,k⟩;replace Z8:=ag k Z8;replace Z7:=ag k Z7;replace Z6:=ag k Z6;replace Z5:=ag k Z5;go_wp2_with fail;refine(ZC.o _ k).mono ?_;rintro j ZK ⟨⟨N,P,L,ZV,ZW,rfl,Zs,Zr,Zq,W,X,V⟩,R⟩;have Zv:=W.block N I;have Zu:=X.block P I;have Zw:=V.block L I;clear Z8 Z7 Z6 Z5;go_wp2_with fail;refine(Kb b (b*b) N P L ZV ZW ZL.heap.size ZK.heap.size _ _ _ _ _ _ ZK ZO I Zs Zr Zq Zv Zu Zw aZ W X V ZF.o (gU.zero b) ZD.o ZH.o ZA.o).mono ?_;rintro j ZJ ⟨⟨ZX,rfl,ZR,ZQ⟩,ZM⟩;have Q:=au G k;have Zx:ap Zj ZJ:=aA.below (au Q R) (au Q R).size ZM Q.size;have ZG:U (m=ae↔∀t,t<b->O ZX t<=0):=by rw[U,ZE.o,ZQ]
  have ZI:=ab ZR;clear ZR ZQ ZM W X V R k;go_wp2_with fail;refine(JJ b (b*b) N P L ZV ZW ZX ZJ m ZO ZI.o ZG.o).mono ?_;rintro j Zk ⟨rfl,Zt⟩;go_wp2;go_ret;exact⟨by cases m<;>rfl,au Zx Zt⟩
end Go.Proofs.YtkjnhlpccgjfhaaGreatDoor
