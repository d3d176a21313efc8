/- A part of the proof: lemmas (my texts, shortened by a program of mine). -/
import Derived.Deep.RegionHeld3
import Derived.Test.YtkjnhlpccgjfhaaGreatDoorC15
import Derived.Test.YtkjnhlpccgjfhaaGreatDoorC23
set_option linter.all false
set_option maxRecDepth 100000
set_option maxHeartbeats 4000000
namespace Go.Proofs.YtkjnhlpccgjfhaaGreatDoor
open Go.RowKit
open Go.Proofs.Tryz
open Bool renaming and_eq_true->b9,false->ak,true->ae
open Go renaming Calls->aY,Value->ay,World->af,bodyPost_ret->aK,callFunc->b0,results->aJ
open Go.Act renaming put->aT
open Go.BinOp renaming andNot->hZ
open Go.Ending renaming returned->aV
open Go.IntKind renaming i64->cz
open Go.IntWalk renaming i64_in->bV
open Go.Obj renaming cells->al
open Go.Result renaming andThen_ok->ex
open Go.Sem renaming run->c9,run_bind->eC,run_pure->ey
open Go.Value renaming agg->ba,bool->aw,int->ed,slice->aa,tuple->aL
open Go.World renaming block_lt_of_cell?->fX,cell?_setCell_other->c3,cell?_setCell_same->fZ,drew->dH,ownsRow_lit->fF
open Go.World.ownsRow renaming lt->fs
open Int renaming toNat_natCast->cI
open List renaming getD_eq_getElem?_getD->jH,length_append->dm,map_append->g7,replicate->bE
open Nat renaming and_le_left->kf,le_refl->bL,lt_of_le_of_lt->jB
open Option renaming isNone_iff_eq_none->eB,none->aj,some->Z
open _root_ renaming Array->bg,Int->F,List->aU,Nat->J,absurd->bC,beq_eq_false_iff_ne->dx,beq_iff_eq->cR,decide_eq_false->iP,decide_eq_true->fW,if_neg->aF,if_pos->a7,rfl->I
variable {p q:Prop}
theorem C7 {a:F} {b:J} (d:bK a=ae) (c:b<aH a):bi 0 ((aH a:F)-1) (b:F)=ae:=bM.2 E
def nT (a:F) (b:ac) (c:J):bc:=bh a (bF (λ d=>c&&&d) b (aH a) b.length)
def uW (d:F) (a:ac) (b:J):ac:=bN (λ b c=>b&&&c) a (cX d b) a.length a.length a.length
def eK (a:F) (c:ac) (b:F):bc:=if aI a c&&b4 a b then bh a ((uW a c b.toNat).set 0 0) else bc.no
def el (f:ac) (a d e:J):ac:=bx (λ b c=>if b≠0 /\ b&&&a=b then c.set b (O f b) else c) (bE d 0) e
theorem qA (c:ac) (b d a:J):el c b d (a+1)=if a≠0 /\ a&&&b=a then (el c b d a).set a (O c a) else el c b d a:=rfl
theorem GW {e:ac} {a c:J} (g:∀b,b<c->0<=O e b /\ O e b<=1000000) (b:J) (h:b<=c) (d:J):0<=O (el e a c b) d /\ O (el e a c b) d<=1000000:=by
 induction b with
 | zero=>show 0<=O (bE c 0) d /\ O (bE c 0) d<=_;rw[eF];omega
 | succ b f =>
  rw[qA]
  have:=g b E
  split
  ·rw[cO];split
   ·omega
   ·exact f E
  ·exact f E
def lA (c:F) (a:ac) (b:J):bc:=bh c (el a b a.length a.length)
theorem IH (a b d:J) (c:af) (i:a<16) (j:b<16) (k: c.cell? (ad d 0)=Z (M a)):
  aY prog 228 #[M b,br d] c λ f e=>f=aV (M ((a&&&b:J):F)) /\ c=e:=by
 have g:=mq a b E E;go_enter func228,ntmps228;go_wp2;go_ret;exact⟨gZ (by simp[g]),I⟩
theorem GX (c:bg ay) (a:af):c9 prog (b0 228 c) a=.ok (.enter 228 c) a:=by
 have g:(Tryz.f228.name== "runtime.NumGoroutine")=ak:=ah;have b:Tryz.f228.body.isNone=ak:=ah;have d:¬Tryz.f228.name= "runtime.NumGoroutine" :=by simpa using g
 have e:¬Tryz.f228.body=aj:=by intro f;rw[f] at b;simp at b
 simp only[b0,eC,run_program,ex,func228,cR,eB,aF d,aF e,ey]
theorem I9 (a:F) (c:J) (Z2:aG) (d l:J) (e:ac) (b:af) (q:an b Z2 d e) (z:aI a e=ae) (x:c<aH a):
  bp 130 #[am a Z2 d l,M c] b (nT a e c):=by
 have Q:=q.below (w':=((b.alloc (al #[M a,aa Z2 d l] 29)).alloc (al #[M c] 3)).alloc (al #[M 0,aa aj 0 0] 29)) (((az b _).alloc ar _).alloc bO _);obtain⟨n,H,v,y,_,_,_⟩:=bt z;have p:=q.len;have B:U (∀k,k<d->0<=O e k /\ O e k<=1000000):= λ k Z1=>y k E
 have Z9:=b8 n;have Y:=C7 n x;have C:U (nT a e c=bh a (bF (λ f=>c&&&f) e (aH a) d)):=by rw[U,<- p];rfl
 rw[C.o];rw[p] at v;have K:d=aH a:=E;clear y H p K;go_enter func130,ntmps130;go_wp2_with fail;refine(cn _ _ _ _ _ _ Q).mono ?_;rw[z];rintro o r ⟨rfl,g⟩;obtain⟨i,m,t,u⟩:=cj (b.heap.size+1+1) g ar;have w:ap b r:=(((az b _).alloc ar _).alloc bO _).trans (g.mono bO);have L:=aS g (b.heap.size+1) 0 (M c);have Z8:=aS g b.heap.size 0 (M a);have Z7:=aS g b.heap.size 1 (aa Z2 d l);have P:=q.below w;have Z6:b.heap.size+1+1<r.heap.size:=b6 i;clear g;go_wp2_with (first | (go_at_call 140;refine(fh a c _ n).mono ?_;rintro o s ⟨rfl,rfl⟩) | (go_at_call 227;fail));refine(oS a a Z2 d l e 228 #[br (b.heap.size+1)] (λ f=>c&&&f) r P v n GX B.o (λ f _=>jB kf x) (λ f s W D=>?_)).mono ?_
 ·exact(IH c f _ s E E (ag D L)).mono λ o R ⟨G,N⟩=>⟨G,lb N⟩
 rintro o Z3 ⟨⟨Z4,rfl,A⟩,j⟩;obtain⟨S,Z5,T,rfl,X⟩:=A.ints;replace t:=aB j i t;replace u:=aB j m u;replace i:=ag j i;replace m:=ag j m;have V:=au w j;go_wp2;refine aK (by simp[aJ,results130,go_sem,i,m]) I ⟨⟨_,I,((A.setBelow (by simp;omega) _).setBelow (by simp;omega) _).mono E⟩,?_⟩;exact bB
theorem ts (ZT:F) (j:aG) (n k:J) (c:ac) (a:af) (G:av a 0 (aa j n k) c) (Z:1<=c.length) (y:c.length<=16) (z:∀d,d<c.length->0<=O c d /\ O c d<=4000000000000000000):
  bp 223 #[M ZT,aa j n k] a (bh ZT (c.set 0 0)):=by
 have P:=ab z;obtain⟨w,r⟩:∃w,c.length=w:=⟨_,I⟩;have i:=ab r;rw[r] at Z y;clear z r;obtain⟨b,e⟩:∃b,a.alloc (al #[M 0,aa aj 0 0] 29)=b:=⟨_,I⟩;have u:b.heap.size=a.heap.size+1:=by rw[<- e];simp
 have B:av ((a.alloc (al #[M 0,aa aj 0 0] 29)).alloc (al #[] 3)) (a.heap.size+1) (aq (a.heap.size+1) 0 0) []:=by
  exact sg
 have H:av ((a.alloc (al #[M 0,aa aj 0 0] 29)).alloc (al #[] 3)) 0 (aa j n k) c:=G.below aD;have K:dy ((a.alloc (al #[M 0,aa aj 0 0] 29)).alloc (al #[] 3)) a.heap.size (M 0) (aa aj 0 0):=(dy.mk2 I).below (az _ _);clear e u b G;go_enter func223,ntmps223;go_wp2_with (at_builtin;refine zx I _ _ I (a.heap.size+1) (aq (a.heap.size+1) 0 0) [] 0 I a6 B 0 (aa j n k) c a6 H (by rw[i.o];omega) ar ?_;intro Z5 v Z2 ZW g t;rw[List.nil_append] at g;obtain⟨Z1,Z3,A,_,_,_⟩:=g.form (by rw[i.o];omega);rw[i.o] at A;injection A with W X Y;subst W X Y;have L:=K.grown (g:=a.heap.size+1) t E;have q:=cV (B:=a.heap.size) (show Below a.heap.size a ((a.alloc (al #[M 0,aa aj 0 0] 29)).alloc (al #[] 3)) from aD) (by simp;omega) t (λ Z4 x=>by have:=dD x;omega);obtain⟨S,V,_⟩:=g.cellAt (show 0<v from E);clear t K B H);obtain⟨ZV,D,Z7,s⟩:=dC g (show 0<v from E) 0;rw[D];have Z9:=iD q q.size s E;have N:=L.grown s E;have ZY:=N.lt;obtain⟨l,m,o,p,_⟩:=N;clear D s g S V L q;have Q:U (∀d,d<v->0<=O (c.set 0 0) d /\ O (c.set 0 0) d<=4000000000000000000):= λ d Z8=>by
  have:=P.o d (by rw[i.o];exact Z8);rw[cO];split<;>omega
 go_wp2_with fail;refine(jl ZT _ _ _ (c.set 0 0) _ Z7.view y Q.o).mono ?_;rintro x ZU ⟨⟨ZX,rfl,C⟩,f⟩;obtain⟨R,Z6,T,rfl,ZZ⟩:=C.ints;replace o:=aB f l o;replace p:=aB f m p;replace l:=ag f l;replace m:=ag f m;have Z0:=au Z9 f;clear f;go_wp2;refine aK (v:=aL #[ba #[M (bh ZT (c.set 0 0)).size,aa R Z6 T],aw (bh ZT (c.set 0 0)).ok]) (by simp[aJ,results223,go_sem,l,m,o,p]) I ⟨?_,?_⟩
 ·exact⟨_,I,(((C.mono (base':=a.heap.size+1) E).setBelow ar _).setBelow ar _).mono E⟩
 ·exact aD
theorem GT (g b:F) (q:aG) (m r:J) (k:ac) (a:af) (N:an a q m k):
  bp 131 #[am g q m r,M b] a (eK g k b):=by
 have P:=N.below (w':=(a.alloc (al #[M g,aa q m r] 29)).alloc (al #[M 0,aa aj 0 0] 29)) ((az a _).alloc ar _);cases v:aI g k
 ·have y:U (eK g k b=bc.no):=by show eK g k b=bc.no;unfold eK;rw[v];rfl
  rw[y.o];go_enter func131,ntmps131;go_wp2_with fail;refine(cn _ _ _ _ k _ P).mono ?_;rw[v];refine dP ?_;intro j i c d e f l;clear i;go_wp2;exact vO
 ·obtain⟨x,V,ZQ,G,_,_,_⟩:=bt v;have L:=N.len;have ZL:=b8 x;cases z:b4 g b
  ·have y:U (eK g k b=bc.no):=by show eK g k b=bc.no;unfold eK;rw[z];simp
   have H:bi 0 ((aH g:F)-1) b=ak:=by simpa [b4,x] using z
   rw[y.o];have D:=ab v;clear V L G;go_enter func131,ntmps131;go_wp2_with fail;refine(cn _ _ _ _ k _ P).mono ?_;rw[D.o];rintro n j ⟨rfl,i⟩;refine fI ?_;intro c d e f;refine fg ?_;intro s t;refine e5 ?_;intro l;clear i v;go_wp2_with (first | (go_at_call 140;refine(fh g b _ x).mono ?_;rintro n A ⟨rfl,rfl⟩));exact vO
  ·have H:bi 0 ((aH g:F)-1) b=ae:=by simpa [b4,x] using z
   obtain⟨o,rfl⟩:∃o:J,b=(o:F):=⟨b.toNat,by have:=bM.1 H;omega⟩;have X:o<aH g:=by have:=bM.1 H;omega
   have W:m=aH g:=E;have y:U (eK g k (o:F)=bh g ((bN (λ b u=>b&&&u) k (cX g o) m m m).set 0 0)):=by
    show eK g k (o:F)=_;unfold eK;rw[v,z];unfold uW;rw[L,cI];rfl
   rw[y.o];have D:=ab v;have Q:U (∀p,p<m->0<=O k p /\ O k p<=1000000):= λ p ZM=>G p E
   have R:U (∀p,p<m->0<=O (cX g o) p /\ O (cX g o) p<=1000000):= λ p _=>by
    unfold cX;rw[cO,eF];split<;>omega
   have Z5:U ((cX g o).length=m):=by rw[U,mz,W]
   have S:U ((bN (λ b u=>b&&&u) k (cX g o) m m m).length=m):=jj _ _ _ _ _ _;have K:m<=16:=E;have Z4:U (∀p,p<(bN (λ b u=>b&&&u) k (cX g o) m m m).length->0<=O (bN (λ b u=>b&&&u) k (cX g o) m m m) p /\ O (bN (λ b u=>b&&&u) k (cX g o) m m m) p<=4000000000000000000):= λ p _=>by
    have:=jY (λ b u=>b&&&u) k (cX g o) m m m K Q.o R.o m aZ p;omega
   have Z0:1<=m:=E;have Z6:=ab X;clear V L G W z X;go_enter func131,ntmps131;go_wp2_with fail;refine(cn _ _ _ _ k _ P).mono ?_;rw[D.o];rintro n j ⟨rfl,i⟩;refine fI ?_;intro c d e f;refine fg ?_;intro s t;refine e5 ?_;intro l;have ZK:a.heap.size+1<j.heap.size:=b6 c;clear i v;go_wp2_with (first | (go_at_call 140;refine(fh g o _ x).mono ?_;rintro n A ⟨rfl,rfl⟩) | fail);go_region_held3 (λ A=>A.cell? (ad a.heap.size 0)=Z (M g) /\ A.cell? (ad a.heap.size 1)=Z (aa q m r)) (first | (refine⟨by assumption,by assumption⟩;done) | (refine⟨by simp[*],by simp[*]⟩;done) | go_keep) (first | (go_at_call 13;refine(qp g o j.drew x Z6.o).mono ?_;rintro n ZD ⟨⟨ZF,rfl,ZY⟩,Z3⟩;obtain⟨ZV,ZX,ZT,rfl,T⟩:=ZY.ints;have ZZ:ZX=m:=(by rw[<- T.len];exact Z5.o);subst ZZ;have B:=au (bI j) Z3;have Z8:=ag B s;have Z7:=ag B t) | (go_at_call 219;refine(qn g g _ _ _ _ _ _ k (cX g o) _ ((N.below l).below B) T K aZ Q.o R.o).mono ?_;rintro n ZC ⟨⟨ZE,rfl,Z9⟩,Z2⟩;obtain⟨ZW,ZH,ZR,rfl,ZN⟩:=Z9.ints;have C:=au B Z2;have Z8:=ag C s;have Z7:=ag C t) | (go_at_call 223;refine(ts g _ _ _ _ _ (Z9.mono (Nat.zero_le _)) (by rw[S.o];exact Z0) (by rw[S.o];exact K) Z4.o).mono ?_;rintro n ZB ⟨⟨ZG,rfl,Y⟩,Z1⟩;obtain⟨ZU,ZI,ZS,rfl,ZO⟩:=Y.ints;have w:=au C Z1;have Z8:=ag w s;have Z7:=ag w t;have e:=aB w c e;have f:=aB w d f;have c:=ag w c;have d:=ag w d));all_goals
    have ZP:=au l w;have ZJ:=C.size;go_wp2;refine aK (by simp[aJ,results131,go_sem,c,d]) I ⟨⟨_,I,((Y.setBelow (by simp;omega) _).setBelow (by simp;omega) _).mono E⟩,?_⟩;exact bB
theorem A4:∀b a:Fin 16,(bits hZ cz ((a.val:J):F) ((b.val:J):F)==0)=decide (a.val&&&b.val=a.val):=cS
theorem GY (k:F) (g:J) (y:aG) (j C:J) (i:ac) (a:af) (S:an a y j i) (L:aI k i=ae) (ZQ:g<aH k):
  bp 132 #[am k y j C,M g] a (lA k i g):=by
 obtain⟨R,ZL,ZS,Y,_,_,_⟩:=bt L;have Z6:=S.len;have Zu:=b8 R;have Zy:=C7 R ZQ;have ZW:U (lA k i g=bh k (el i g j j)):=by rw[U,<- Z6];rfl
 rw[ZW.o];have Z0:U (∀b,b<j->0<=O i b /\ O i b<=1000000):= λ b ZN=>Y b E
 have ZX:=ab L;have ZK:j<=16:=E;have ZP:g<16:=E;have ZH:=S.below (w':=(a.alloc (al #[M k,aa y j C] 29)).alloc (al #[M 0,aa aj 0 0] 29)) ((az a _).alloc ar _);clear Y ZL Z6 ZS L;go_enter func132,ntmps132;go_wp2_with fail;refine(cn _ _ _ _ i _ ZH).mono ?_;rw[ZX.o];rintro n W ⟨rfl,t⟩;obtain⟨c,d,e,f⟩:=cj (a.heap.size+1) t ar;have Z5:=aS t a.heap.size 0 (M k);have Z4:=aS t a.heap.size 1 (aa y j C);have ZR:ap a W:=dz t;have ZG:a.heap.size+1<W.heap.size:=b6 c;clear t;go_wp2_with (first | (go_at_call 140;refine(fh k g _ R).mono ?_;rintro n ZC ⟨rfl,rfl⟩) | (at_make;refine e6 rfl _ _ rfl j _ _ rfl rfl rfl rfl E ?_;intro ZD N l ZF;(have X:=ag l Z5);(have ZZ:=ag l Z4);(have G:=ag l c);(have H:=ag l d);(have P:=aB l c e);(have Q:=aB l d f)));have V:=au ZR l;clear Z5 Z4 c d e f l;obtain⟨r,o⟩:∃r,W.heap.size=r:=⟨_,I⟩;rw[o] at N ZF ZG ⊢;clear o;have ZJ:=N;clear N;go_loopw [7,8,27] (λ _ _ T wr=>∃b:J,b<=j /\ T=M b /\ av wr r (aq r j j) (el i g j b) /\ ZD.grownBy wr (Z r)) (λ _ _ T _=>j-(intOf T).toNat)
 case atStart=>exact⟨0,E,I,ZJ,hI _ _⟩
 case round =>
  obtain⟨b,ZN,rfl,u,o⟩:=hrel;refine mX ?_;intro s;by_cases K:b<j
  ·have Zx:(0:F)<=(b:F):=E;have Zw:(b:F)<(j:F):=E;obtain⟨ZB,Zs,rfl,_,_,ZO⟩:=S.at s K;have m:=ab (qA i g j b);have z:=A4 ⟨g,ZP⟩ ⟨b,E⟩;simp only at z;obtain⟨Z9,Z8,_⟩:=u.cellAt K;obtain⟨B,Z1⟩:∃B,O i b=B:=⟨_,I⟩;rw[Z1] at ZO m;clear Z1;by_cases A:b=0
   ·have x:U (el i g j (b+1)=el i g j b):=by rw[U,m.o,aF (λ D=>D.1 A)]
    have ZM:((b:F) != 0)=ak:=by rw[A];rfl
    clear Z9 Z8 z m A;exact xY
   ·have Zv:((b:F)==0)=ak:=by rw[dx];omega
    have ZM:((b:F) != 0)=ae:=by rw[bne_iff_ne];omega
    by_cases q:b&&&g=b
    ·have x:U (el i g j (b+1)=(el i g j b).set b B):=by rw[U,m.o,a7 ⟨A,q⟩]
     rw[fW q] at z;obtain⟨Zp,Z2,ZI,Z7⟩:=dC u K B;have ZY:=ab (eO o Z7);have ZV:=ab Z2;clear Z2 Z7 u o m q;go_wp2;rw[ZV.o];go_roundw
     case rel=>exact⟨b+1,E,by go_num,by rw[x.o];exact ZI,ZY.o⟩
     case measure=>simp[intOf];omega
    ·have x:U (el i g j (b+1)=el i g j b):=by rw[U,m.o,aF (λ D=>q D.2)]
     rw[iP q] at z;clear Z9 Z8 m q;exact xY
  ·obtain rfl:b=j:=E;refine l5 ?_;intro e f c d;have Zr:=cW o X E;have Zt:=o.size;refine yS ?_;intro v;clear o X ZZ G H P Q;go_wp2_with fail;refine(jl _ _ _ _ (el i g b b) _ u.view ZK v.o).mono ?_;rintro n Zo ⟨⟨Zq,rfl,Z3⟩,p⟩;obtain⟨ZU,ZE,ZT,rfl,Zz⟩:=Z3.ints;refine h9 ?_;intro e f c d;have ZA:=au s p;clear p;go_wp2;refine aK (v:=aL #[ba #[M (bh k (el i g b b)).size,aa ZU ZE ZT],aw (bh k (el i g b b)).ok]) (by simp[aJ,results132,go_sem,c,d,e,f]) I ⟨?_,?_⟩
   ·exact⟨_,I,(((Z3.mono (base':=a.heap.size+1+1) E).setBelow bO _).setBelow bO _).mono E⟩
   ·exact aD
theorem dT.putA {g:af} {c:J} {b:gT} (a:dT g c b) (d:F):dT (g.setCell (ad c 4) (M d)) c ⟨b.s,b.xs,b.t,b.ys,d,b.g⟩:=by
 obtain⟨h,p,j,l,m,e⟩:=a.m;obtain⟨i,q,k,n,o,f⟩:=a.n;refine⟨by simp;exact a.lt,?_,?_,?_,by simp[a.f0],by simp[a.f1],by simp[a.f2],by simp[a.f3],by simp[a.f4],⟨h,p,j,?_,m.setOther (a:=(ad c 4)) e _,e⟩,⟨i,q,k,?_,o.setOther (a:=(ad c 4)) f _,f⟩,(c3 _ _ _ _ ar).trans a.c5,by simp[a.f5]⟩
 ·exact(c3 _ _ _ _ ar).trans a.c0
 ·exact(c3 _ _ _ _ ar).trans a.c2
 ·exact fZ _ _ _ a.c4
 ·exact(c3 _ _ _ _ ar).trans l
 ·exact(c3 _ _ _ _ ar).trans n
def hO (e:ac) (a c:J):ac:=bx (λ b d=>d++[O e (a-1-b)]) [] c
theorem qL (c:ac) (a b:J):hO c a (b+1)=hO c a b++[O c (a-1-b)]:=rfl
theorem kF (d:ac) (b a:J):(hO d b a).length=a:=by
 induction a with
 | zero=>rfl
 | succ a c=>rw[qL,dm,c];rfl
theorem Kl (f:ac) (d a b:J) (g:b<a):O (hO f d a) b=O f (d-1-b):=by
 induction a with
 | zero=>omega
 | succ a c =>
  rw[qL]
  unfold O at c ⊢
  rw[jH] at c ⊢
  by_cases e:b<a
  ·rw[List.getElem?_append_left (by rw[kF];exact e)];exact c e
  ·obtain rfl:b=a:=E;rw[List.getElem?_append_right (by rw[kF];exact bL _),kF,Nat.sub_self];rfl
def dv (a:ac):ac:=hO a a.length a.length
theorem oF (a:ac):(dv a).length=a.length:=kF _ _ _
theorem qM (a:ac) {b:J} (c:b<a.length):O (dv a) b=O a (a.length-1-b):=Kl _ _ _ _ c
theorem NH (c:ac) (b:J) (e:c.length=b):∀a,a<=b->cH (dv c) a+cH c (b-a)=cH c b:=by
 intro a;induction a with
 | zero=>intro _;show (0:F)+cH c b=_;omega
 | succ a f =>
  intro i
  have g:=f E
  have d:b-a=(b-(a+1))+1:=E
  have h:cH c (b-a)=cH c (b-(a+1))+O c (b-(a+1)):=by rw[d];rfl
  show cH (dv c) a+O (dv c) a+cH c (b-(a+1))=_
  rw[qM _ E,e,show b-1-a=b-(a+1) from E]
  omega
theorem LZ (a:ac):aW (dv a)=aW a:=by
 have b:=NH a a.length I a.length aZ;rw[Nat.sub_self] at b;have c:cH a 0=0:=rfl;show cH (dv a) (dv a).length=cH a a.length;rw[oF];omega
theorem NI (a:ac):bT (dv a)=bT a:=by
 have e:=jm a a.length;have f:=jm (dv a) a.length;show es (dv a) (dv a).length=es a a.length;rw[oF];refine Int.dvd_antisymm f e ?_ ?_
 ·refine tF a _ _ λ b d=>?_
  have c:=lm (dv a) a.length (a.length-1-b) E;rw[qM _ E,show a.length-1-(a.length-1-b)=b from E] at c;exact c
 ·refine tF (dv a) _ _ λ b d=>?_
  have c:=lm a a.length (a.length-1-b) E;rw[qM _ d];exact c
theorem L0 {b:F} {a:ac} (c:aI b a=ae):aI b (dv a)=ae:=by
 obtain⟨d,e,j,f,k,l,g⟩:=cv c;unfold aI;rw[d,oF,LZ,NI,g];simp only[b9,cR,cp,bM];exact⟨⟨⟨⟨trivial,e⟩,λ i h=>by rw[qM _ h];have:=f (a.length-1-i) E;omega⟩,E⟩,trivial⟩
theorem L1:∀a:Fin 5,∀b:Fin (2^a.val),bits BinOp.xor cz (((2^a.val:J):F)-1) ((b.val:J):F)=((2^a.val-1-b.val:J):F):=cS
theorem JU {a:F} (b:bK a=ae):a.toNat<5 /\ aH a=2^a.toNat:=by
 rcases cG.1 b with rfl | rfl | rfl | rfl<;>exact⟨aX,rfl⟩
theorem nN {W:af} {A:J} (c:TypeId) (a b:ay) (d:W.heap.size=A):(W.alloc (al #[a,b] c)).cell? (ad A 0)=Z a /\ (W.alloc (al #[a,b] c)).cell? (ad A 1)=Z b /\ (W.alloc (al #[a,b] c)).frozen? (ad A 0)=ak /\ (W.alloc (al #[a,b] c)).frozen? (ad A 1)=ak /\ A<(W.alloc (al #[a,b] c)).heap.size:=by
 subst d;simp
theorem Nf (d:af) (e:ay) (f:TypeId):∀b c,[e][b]? =Z c->(d.alloc (al #[e] f)).cell? (((ad d.heap.size 0):Addr).add b)=Z c:=by
 intro b c a
 match b,a with
 | 0,a=>simp at a;subst a;simp[Addr.add]
theorem Bs {c g:af} {f:Option J} {a b:J} {h:ay} (j:c.grownBy g f) (e: c.cell? ⟨a,b,aj⟩=Z h) (k:∀d,f=Z d->a≠d): g.cell? ⟨a,b,aj⟩=Z h :=
 (eR (j.block a (fX c ⟨a,b,aj⟩ e) λ i=>k a i.symm I)).trans e
theorem IU {c f:af} {e:Option J} {a b:J} {l:ay} (j:c.grownBy f e) (h: c.cell? ⟨a,b,aj⟩=Z l) (i: c.frozen? ⟨a,b,aj⟩=ak) (k:∀d,e=Z d->a≠d): f.frozen? ⟨a,b,aj⟩=ak :=
 (gK (j.block a (fX c ⟨a,b,aj⟩ h) λ g=>k a g.symm I)).trans i
theorem JV {j b:af} {c g f:J} {a:TypeId} {h:ay} {i:aU ay} (d:j.ownsRow c a g h f i) (k:ap j b):b.ownsRow c a g h f i:=jZ d (λ e a=>k.block e (fs d e a).2)
theorem A5 (l:F) (S:aG) (g T:J) (p:ac) (m:af) (Zq:an m S g p) (Zu:aI l p=ae):
  aY prog 225 #[am l S g T] m λ u b=>(∃V,u=aV (ba #[M l,V]) /\ av b m.heap.size V (dv p)) /\ ap m b:=by
 obtain⟨ZO,YY,YS,Y1,_,_,_⟩:=cv Zu;have Zt:=Zq.len;have YL:=b8 ZO;obtain⟨Zy,ZP⟩:=JU ZO;have YM:g<=16:=E;have YN:0<g:=E;have Y8:U (∀v:J,v<g->bits BinOp.xor cz ((aH l:F)-1) (v:F)=((g-1-v:J):F)):= λ v YZ=>by
  have ZS:=L1 ⟨l.toNat,Zy⟩ ⟨v,by show v<2^l.toNat;rw[<- ZP];omega⟩;simp only at ZS;rw[<- ZP] at ZS;rw[ZS,show g=aH l from E]
 have Y9:U (dv p=hO p g g):=by rw[U,<- Zt];rfl
 rw[Y9.o];obtain⟨Zh,Zv,Zp,Zo,Zn⟩:=info_parts ig;have Zj:=ab Zv;have Z0:U (_ /\ _ /\ _):=⟨Zp,Zo,Zn⟩;obtain⟨e,ZR⟩:∃e,m.heap.size+1+1=e:=⟨_,I⟩;obtain⟨Z9,ZW⟩:∃Z9,U (((m.alloc (al #[M l,aa S g T] 29)).alloc (al #[M 0,aa aj 0 0] 29)).alloc (al #[M l,aa aj 0 0] 29)=Z9):=⟨_,I⟩;have Y3:ap m Z9:=by rw[<- ZW.o];exact aD
 have ZV:=nN (W:=m) 29 (M l) (aa S g T) I;have N:=nN (W:=m.alloc (al #[M l,aa S g T] 29)) (A:=m.heap.size+1) 29 (M 0) (aa aj 0 0) ar;have Y5:=nN (W:=(m.alloc (al #[M l,aa S g T] 29)).alloc (al #[M 0,aa aj 0 0] 29)) (A:=m.heap.size+1+1) 29 (M l) (aa aj 0 0) ar;have Zm:=ag (az _ (al #[M l,aa aj 0 0] 29)) (ag (az _ (al #[M 0,aa aj 0 0] 29)) ZV.1);have Zl:=ag (az _ (al #[M l,aa aj 0 0] 29)) (ag (az _ (al #[M 0,aa aj 0 0] 29)) ZV.2.1);have D:=aB (az _ (al #[M l,aa aj 0 0] 29)) N.1 N.2.2.1;have G:=aB (az _ (al #[M l,aa aj 0 0] 29)) N.2.1 N.2.2.2.1;have H:=ag (az _ (al #[M l,aa aj 0 0] 29)) N.1;have K:=ag (az _ (al #[M l,aa aj 0 0] 29)) N.2.1;obtain⟨ZM,ZL,Zz,ZT,Zx⟩:=Y5;rw[ZW.o] at Zm Zl D G H K ZM ZL Zz ZT Zx;rw[ZR] at ZM ZL Zz ZT Zx;obtain⟨t,ZQ⟩:∃Y7,m.heap.size+1=Y7:=⟨_,I⟩;rw[ZQ] at D G H K;have YP:m.heap.size<t:=E;have YO:t<e:=E;have Zb:=ab ZR;have Za:=ab ZQ;clear ZR ZQ ZV N YY Zt Y1 ZP Zy Zv Zp Zo Zn Zu;go_enter func225,ntmps225;go_wp2;rw[ZW.o];rw[Zb.o,Za.o];go_loopw [4,11] (λ _ z wr=>∃(v:J) (V:ay),v<=g /\ z=M v /\ wr.cell? (ad e 0)=Z (M l) /\ wr.cell? (ad e 1)=Z V /\ wr.frozen? (ad e 1)=ak /\ av wr (e+1) V (hO p g v) /\ Below e Z9 wr) (λ _ z _=>g-(intOf z).toNat)
 case atStart=>exact⟨0,_,E,I,ZM,ZL,ZT,av.nil _ _,Below.refl _ _⟩
 case round =>
  obtain⟨v,V,YZ,rfl,ZZ,L,Z3,w,x⟩:=hrel;obtain⟨q,i,r,rfl,Y0⟩:=w.ints;have YW:i=v:=by rw[<- Y0.len];exact kF _ _ _
  subst YW;have Y4:ap m wr:=Y3.trans (x.mono E);have Y2:=fX wr _ L;simp only at Y2;have ZA:=(x.cell (p:=(ad m.heap.size 0)) (by show m.heap.size<e;omega)).trans Zm;have Z2:=(x.cell (p:=(ad m.heap.size 1)) (by show m.heap.size<e;omega)).trans Zl;by_cases YX:i<g
  ·have YR:(0:F)<=(i:F):=E;have YQ:(i:F)<(g:F):=E;obtain⟨n,Zs⟩:∃n,g-1-i=n:=⟨_,I⟩;have YV:n<g:=E;have YU:=Y8.o i YX;have R:=ab (qL p g i);rw[Zs] at YU R;refine oo ?_;intro X Y;obtain⟨Z8,ZK,rfl,YK,YJ,ZU⟩:=Zq.at Y4 YV;obtain⟨Q,Zw⟩:∃YT,O p n=YT:=⟨_,I⟩;rw[Zw] at ZU R;have Z1:U (∀s,(aa q i r).ownBlock=Z s->e≠s):= λ s u=>by have:=(w.block s u).1;omega
   have y:wr.ownsRow (e+1) 3 1 (aa q i r) i ((hO p g i).map (ed .i64)):=by
    have a:=w;unfold av at a;rw[kF] at a;exact a
   have ZJ:=ab y;have YI:Z8<e:=E;clear Zs Zw y;go_wp2;refine jT (ι:=ay×ay) (λ Y6 z=>(aT (aT (aT (aT (aT (aT (aT (aT (aT (aT (aT (aT (aT (aT Y6 (Z 14) (.pointer (Z (ad e 1)))) (Z 15) (aa q i r)) (Z 16) (.pointer (Z (ad m.heap.size 1)))) (Z 17) (aa (Z ⟨Z8,ZK,aj⟩) g T)) (Z 18) (br m.heap.size)) (Z 19) (M l)) (Z 20) (M ((aH l:F)-1))) (Z 21) (M (i:F))) (Z 22) (M (n:F))) (Z 23) (.pointer (Z ⟨Z8,ZK+n,aj⟩))) (Z 24) (M Q)) (Z 25) z.1) (Z 26) z.2) (Z 27) (.pointer (Z (ad e 1))))) (λ z b=>b.cell? (ad e 0)=Z (M l) /\ b.cell? (ad e 1)=Z z.2 /\ b.frozen? (ad e 1)=ak /\ av b (e+1) z.2 (hO p g (i+1)) /\ Below e Z9 b) ?_ ?_
   ·refine gJ (λ b=>Below e wr b) (λ b=>b.cell? (ad e 1)=Z (aa q i r) /\ b.frozen? (ad e 1)=ak) 12 ah ?_;refine lY ?_;refine yY ?_;intro d c;refine p4 ?_;refine yW ?_;refine bX (i:=4) (v:=?_) I ah ah ah (λ _ _ _ a=>a) aX (Or.inl ⟨a6,λ b f=>?_⟩) d (λ _=>c) ?_;rotate_left
    ·go_simp;first | done | rfl
    simp only[aT];refine bX (i:=5) (v:=?_) I ah ah ah (λ _ _ _ a=>a) aX (Or.inl ⟨a6,λ b f=>?_⟩) d (λ _=>c) ?_;rotate_left
    ·have ZN:=(f.cell (p:=(ad m.heap.size 0)) (show m.heap.size<e from E)).trans ZA;go_simp;first | done | rfl
    simp only[aT];refine bX (i:=7) (v:=?_) I ah ah ah (λ _ _ _ a=>a) aX (Or.inl ⟨a6,λ b f=>?_⟩) d (λ _=>c) ?_;rotate_left
    ·go_simp;first | done | rfl
    simp only[aT];refine e7 6 I ah a6 (λ k j=>?_);go_simp;refine(me l _ ZO).mono ?_;rintro u YE ⟨rfl,rfl⟩;go_simp;refine j _ _ d (λ _=>c) ?_;clear j k;refine bX (i:=8) (v:=?_) I ah ah ah (λ _ _ _ a=>a) aX (Or.inl ⟨a6,λ b f=>?_⟩) d (λ _=>c) ?_;rotate_left
    ·go_simp;first | done | rfl
    simp only[aT];refine ol ?_;refine bX (i:=10) (v:=?_) I ah ah ah (λ _ _ _ a=>a) aX (Or.inl ⟨a6,λ b f=>?_⟩) d (λ _=>c) ?_;rotate_left
    ·have ZN:=(f.cell (p:=⟨Z8,ZK+n,aj⟩) (show Z8<e from E)).trans ZU;go_simp;first | done | rfl
    simp only[aT];refine om ?_;intro k j;refine y5 ?_;intro A o;refine j _ _ A (λ _=>o) ?_;clear j k d c;refine e7 12 I ah a6 (λ k j=>?_);refine yp ?_;intro s Z7 C ZX P ZI ZH y d c ZY;refine j _ _ d (λ _=>c) ?_;clear j k A o;refine bX (i:=13) (v:=?_) I ah ah ah (λ _ _ _ a=>a) aX (Or.inl ⟨a6,λ b f=>?_⟩) d (λ _=>c) ?_;rotate_left
    ·go_simp;first | done | rfl
    simp only[aT];have Zr:=c.1;have ZD:=c.2;refine mT ?_;intro k j;exact wa
   ·rintro⟨YH,YG⟩ YF ⟨ZE,ZC,ZB,Zf,Zg⟩;have Ze:=ab ZE;have Zd:=ab ZC;have Zc:=ab ZB;clear ZZ L Z3 w ZA Z2 ZU ZE ZC ZB;go_wp2;go_roundw
    case rel=>exact⟨i+1,_,E,by go_num,Ze.o,Zd.o,Zc.o,Zf,Zg⟩
    case measure=>simp[intOf];omega
  ·obtain rfl:i=g:=E;refine y4 ?_;intro Z6 Z5 ZG ZF Z4;clear H K D G;go_wp2;refine aK (v:=am l q i r) (by simp[aJ,results225,go_sem,Z6,Z5]) I ⟨⟨_,I,(w.put2 (b:=t) Z4).mono E⟩,?_⟩;exact aD
theorem GU (c:F) (G:aG) (j m:J) (f:ac) (a:af) (s:an a G j f) (q:aI c f=ae):
  aY prog 127 #[am c G j m] a λ i k=>b1 ⟨c,dv f,ae⟩ a.heap.size i k /\ ap a k:=by
 have l:=ab q;go_enter func127,ntmps127;go_wp2_with fail;refine(cn _ _ _ _ f _ (s.below aD)).mono ?_;rw[l.o];rintro i t ⟨rfl,e⟩;obtain⟨d,g,n,o⟩:=cj (a.heap.size+1) e ar;have A:=aS e a.heap.size 0 (M c);have B:=aS e a.heap.size 1 (aa G j m);have p:ap a t:=bJ e;have z:a.heap.size+1<t.heap.size:=b6 d;clear e q;go_wp2_with fail;refine(A5 c _ _ _ f _ (s.below p) l.o).mono ?_;rintro i D ⟨⟨C,rfl,r⟩,b⟩;obtain⟨u,w,v,rfl,y⟩:=r.ints;replace n:=aB b d n;replace o:=aB b g o;replace d:=ag b d;replace g:=ag b g;have x:=au p b;clear b;go_wp2;refine aK (v:=aL #[am c u w v,aw ae]) (by simp[aJ,results127,go_sem,d,g]) I ⟨⟨_,I,((r.setBelow (a:=(ad (a.heap.size+1) 0)) (by simp;omega) _).setBelow (a:=(ad (a.heap.size+1) 1)) (by simp;omega) _).mono E⟩,?_⟩;exact aD
theorem JW {g:F} {e:ac} {d:J} {a:J} (l:e.length=a) (k:aH g=a) (m:d<a) (j:∀b,b<a->b&&&d<a):bN (λ b c=>b&&&c) e (cX g d) a a a=bF (λ c=>d&&&c) e a a:=by
 refine MJ _ _ a (jj _ _ _ _ _ _) (jV _ _ _ _) λ h=>?_
 rw[(Ky h (λ b c=>b&&&c) e (cX g d) a a a (λ b c f n=>jB kf f)).1,uk h _ e a a]
 ·refine BN _ _ λ b f=>?_
  congr 1;have i:=CW (λ c=>h (b&&&c)) g d E;rw[k] at i;rw[i,Nat.and_comm]
 ·intro b f;rw[Nat.and_comm];exact j b f
theorem IV {c:ac} {T:J->J} {a d:J} (g:∀b,b<a->T b<a) (f:∀b,b<a->0<=O c b) (h:d<a):O (bF T c a a) d<=cH c a:=by
 have e:=uk (ix d) T c a a g;rw[nJ,a7 h] at e;rw[e,<- uO];exact q9 c a f λ b _ _=>by unfold ix;split<;>omega
theorem Bx {d:F} {a:ac} (b:aI d a=ae):cH a a.length<=1000000:=by
 obtain⟨_,_,_,_,_,c,_⟩:=bt b;exact c
theorem i1 (b c:F) (d:aG) (f g:J) (m:ac) (a:af) (u:an a d f m):
  aC 75 #[am b d f g,M c] a (aw (aI b m&&b4 b c)):=by
 cases w:aI b m
 ·go_enter func75,ntmps75;go_wp2_with fail;refine pO ?_;rintro e k ⟨rfl,i⟩;refine ic ?_;intro l;exact kV
 ·cases j:b4 b c;all_goals
   go_enter func75,ntmps75;go_wp2_with fail;refine(dA _ _ _ _ m _ (u.below aD)).mono ?_;rw[w];rintro e k ⟨rfl,i⟩;have o:=aS i a.heap.size 0 (M b);have l:ap a k:=bJ i;clear i;go_wp2_with fail;refine(ni b c _).mono ?_;rw[j];rintro e n ⟨rfl,rfl⟩;go_wp2;go_ret;exact⟨I,l⟩
theorem GZ (v:F) (d:J) (j:aG) (g o:J) (c:ac) (f:af) (C:an f j g c) (ZV:g<=16) (Z5:d<16) (q:∀a,a<g->0<=O c a /\ O c a<=1000000) (x:∀K,K<g->d&&&K<g):
  db 294 #[am v j g o,M d] f (bF (λ b=>d&&&b) c g g):=by
 have Z2:=C.cap;have P:=ab (mh (λ b=>d&&&b) c g g 1000000 E q);have N:=ab q;have L:=ab x;clear q x;go_enter func294,ntmps294;go_wp2_with (at_make;refine e6 I _ _ I g _ _ I I I I E ?_;intro H m k D);have Z7:=aS k f.heap.size 0 (M v);have G:=aS k f.heap.size 1 (aa j g o);have z:ap f H:=bJ k;have Z8:(f.alloc (al #[M v,aa j g o] 29)).heap.size=f.heap.size+1:=ar;rw[Z8] at m D;obtain⟨e,i⟩:∃e,f.heap.size+1=e:=⟨_,I⟩;have ZZ:f.heap.size<e:=E;rw[i] at m D ⊢;have Z:=m;clear m k i;go_loopw [6] (λ u wr=>∃a:J,a<=g /\ u=M a /\ av wr e (aq e g g) (bF (λ b=>d&&&b) c g a) /\ aA e (e+1) H wr) (λ u _=>g-(intOf u).toNat)
 case atStart=>exact⟨0,E,I,Z,aA.refl _ _ _⟩
 case round =>
  obtain⟨a,ZY,rfl,l,i⟩:=hrel;have y:ap f wr:=aA.below z z.size i E;have ZS:=aA.keep i G E;by_cases r:a<g
  ·have ZX:(0:F)<=(a:F):=E;have ZW:(a:F)<(g:F):=E;obtain⟨Z6,ZT,rfl,_,_,Z1⟩:=C.at y r;have p:=L.o a r;have T:=mq d a E E;have ZU:=N.o a r;have V:=P.o a E (d&&&a);obtain⟨n,s⟩:∃n,d&&&a=n:=⟨_,I⟩;have R:U (bF (λ b=>d&&&b) c g (a+1)=(bF (λ b=>d&&&b) c g a).set n (O (bF (λ b=>d&&&b) c g a) n+O c a)):=by rw[U,<- s];rfl
   rw[s] at p T V;refine oo ?_;intro X Y;obtain⟨Z3,Z0,_⟩:=l.cellAt p;have Z4:IntKind.i64.wrap (O (bF (λ b=>d&&&b) c g a) n+O c a)=O (bF (λ b=>d&&&b) c g a) n+O c a:=bV _ E;obtain⟨w,t,A,W⟩:=dC l p (O (bF (λ b=>d&&&b) c g a) n+O c a);have B:aA e (e+1) wr w:=by rw[<- t];exact aA.set (by show e<=e /\ e<e+1;omega)
   have Q:=ab ((i.trans B).trans (aA.of_below (bI w)));have Z9:=A.below (bI w);have S:=ab t;clear t W l i s B A;go_wp2;go_big_region;all_goals
    rw[S.o];go_wp2;go_roundw
    case rel=>exact⟨a+1,E,by go_num,by rw[R.o];exact Z9,Q.o⟩
    case measure=>simp[intOf];omega
  ·obtain rfl:a=g:=E;clear i Z7 G;go_wp2;go_ret;exact⟨⟨_,I,l.mono E⟩,y⟩
theorem Fb (g b:F) (q:aG) (m r:J) (j:ac) (a:af) (H:an a q m j):
  bp 201 #[am g q m r,M b] a (eK g j b):=by
 cases Q:aI g j&&b4 g b
 ·have N:U (eK g j b=bc.no):=by show eK g j b=bc.no;unfold eK;rw[Q];rfl
  rw[N.o];go_enter func201,ntmps201;go_wp2_with fail;refine(i1 g b _ _ _ j _ (H.below aD)).mono ?_;rw[Q];rintro W k ⟨rfl,i⟩;refine fI ?_;intro c d e f;refine ic ?_;intro l;clear i;go_wp2;refine aK (v:=aL #[am 0 aj 0 0,aw ak]) (by simp[aJ,results201,go_sem,c,d]) I ⟨?_,?_⟩
  ·exact b1.no _ _
  ·exact aD
 ·have Z6:=Q;rw[b9] at Z6;obtain⟨X,w⟩:=Z6;obtain⟨o,ZZ,ZO,S,_,_,_⟩:=bt X;have G:=H.len;have ZL:=b8 o;refine mU ?_;intro v;obtain⟨n,rfl⟩:∃n:J,b=(n:F):=⟨b.toNat,by have:=bM.1 v;omega⟩;have Z4:n<m:=by have:=bM.1 v;omega
  have Z7:∀K,K<m->K&&&n<m:= λ K H=>jB kf H
  have R:∀K,K<m->n&&&K<m:= λ K H=>jB kf Z4
  have N:U (eK g j (n:F)=bh g ((bF (λ p=>n&&&p) j m m).set 0 0)):=by
   show eK g j (n:F)=_;unfold eK;rw[Q];unfold uW;rw[G,cI,JW G E Z4 Z7];rfl
  refine yM ?_;intro L P T y;have Z5:=Bx X;have Y:U (∀u,u<m->0<=O (bF (λ p=>n&&&p) j m m) u /\ O (bF (λ p=>n&&&p) j m m) u<=1000000):= λ u D=>by
   exact xS
  have Z2:=ab Q;refine yG ?_;intro A z C;rw[C] at y Y z ⊢;clear ZZ G S Q X w v Z7 R C;go_enter func201,ntmps201;go_wp2_with fail;refine(i1 g n _ _ _ j _ (H.below aD)).mono ?_;rw[Z2.o];rintro W k ⟨rfl,i⟩;refine fI ?_;intro c d e f;refine fg ?_;intro s t;refine ic ?_;intro l;have ZK:a.heap.size+1<k.heap.size:=b6 c;clear i;go_wp2_with fail;go_region_held3 (λ x=>x.cell? (ad a.heap.size 0)=Z (M g) /\ x.cell? (ad a.heap.size 1)=Z (aa q m r)) (first | (refine⟨by assumption,by assumption⟩;done) | (refine⟨by simp[*],by simp[*]⟩;done) | go_keep) (first | (go_at_call 294;refine(z.o _ ((H.below l).below (bI k))).mono ?_;rintro W ZF ⟨⟨ZG,rfl,ZY⟩,Z1⟩;obtain⟨ZP,ZQ,Z9,_,_,Z8⟩:=ZY.form (by rw[y.o];omega);rw[y.o] at Z9 Z8;subst Z9;have V:=au (bI k) Z1;have ZX:=ag V s;have ZW:=ag V t) | (go_at_call 293;refine(tL g _ _ _ A _ Z8 T P (λ u D=>by have:=Y.o u D;omega)).mono ?_;rintro W ZE ⟨⟨ZH,rfl,Z3⟩,Z0⟩;obtain⟨ZV,ZI,ZU,rfl,ZM⟩:=Z3.ints;have B:=au V Z0;have ZX:=ag B s;have ZW:=ag B t;have e:=aB B c e;have f:=aB B d f;have c:=ag B c;have d:=ag B d));all_goals
   have ZN:=au l B;have ZJ:=V.size;go_wp2;refine aK (by simp[aJ,results201,go_sem,c,d]) I ⟨⟨_,I,((Z3.setBelow (by simp;omega) _).setBelow (by simp;omega) _).mono E⟩,?_⟩;exact aD
theorem JX (a:F) (b:af):aY prog 65 #[M a] b λ c e=>c=aV (aw (bi 0 15 a)) /\ b=e:=by
 go_enter func65,ntmps65;exact sq
end Go.Proofs.YtkjnhlpccgjfhaaGreatDoor
