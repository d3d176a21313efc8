/- Lemmas. -/
import Derived.Test.YtkjnhlpccgjfhaaGreatDoorC35
set_option linter.all false
set_option maxRecDepth 100000
set_option maxHeartbeats 4000000
namespace Go.Proofs.YtkjnhlpccgjfhaaGreatDoor
open Go.RowKit
open Go.Proofs.Tryz
open Bool renaming and_eq_true->b9,false->ak,true->ae,true_and->eo
open _root_.ByteArray renaming mk->aN
open Go renaming Calls->aY,Oper->bD,Value->ay,World->af,bodyPost_ret->aK,results->aJ
open Go.Act renaming put->aT
open Go.Ending renaming returned->aV
open Go.Obj renaming cells->al
open Go.Value renaming agg->ba,bool->aw,slice->aa,string->aE,tuple->aL
open Go.World renaming drew->dH,ownsRow_lit->fF
open Nat renaming le_refl->bL,lt_of_lt_of_le->cm,lt_or_ge->hX,lt_succ_self->gB
open Option renaming none->aj,some->Z
open Or renaming inl->bj,inr->aP
open _root_ renaming Array->bg,Int->F,List->aU,Nat->J,decide_eq_true_eq->hB,rfl->I
variable {p q:Prop}
def dJ (i:FuncId) (m k:ax) (l:aR) (j:ax) (g:aR):Prop :=
 ∀(b:J->Prop) (a:af) (f:ay),(∀e,b e->e<a.heap.size)->ff a b l f->aY prog i #[f,aE (ai m),aE (ai k)] a λ h d=>(∃c,h=aV (aL #[c,aE (ai (j++[10]))]) /\ ff d b g c) /\ ap a d
theorem GG {d g h:af} {b o:J} {i j k l m n t u v w x y X Y r:ay} {s:ac} (O:gG g d.heap.size i j k l m n t u v w x y) (p:ap d g) (q:av g o r s) (Z:d.heap.size+1<b) (Z8:b<o) (Z9:b<g.heap.size) (P:(g.setCell (ad b 0) X).setCell (ad b 1) Y=h):
  gG h d.heap.size i j k l m n t u v w x y /\ ap d h /\ b<h.heap.size /\ av h (b+1) r s:=by
 have a:aA b (b+1) g h:=by rw[<- P];exact(aA.set ⟨bL _,gB _⟩).trans (aA.set ⟨bL _,gB _⟩)
 obtain⟨⟨A,B,C,D,F,G⟩,⟨R,S,T,U,V,W⟩,⟨H,I,K,L,M,N⟩,f⟩:=O;have e:d.heap.size<b \/ b+1<=d.heap.size:=bj E;have c:d.heap.size+1<b \/ b+1<=d.heap.size+1:=bj E;have Z7:=a.size;refine⟨⟨⟨a.keep A e,a.keep B e,a.keep C e,a.keep D e,a.keep F e,a.keep G e⟩,⟨a.keep R c,a.keep S c,a.keep T c,a.keep U c,a.keep V c,a.keep W c⟩,⟨(a.keepF ⟨f,H⟩ c).2,(a.keepF ⟨f,I⟩ c).2,(a.keepF ⟨f,K⟩ c).2,(a.keepF ⟨f,L⟩ c).2,(a.keepF ⟨f,M⟩ c).2,(a.keepF ⟨f,N⟩ c).2⟩,E⟩,?_,E,?_⟩
 ·exact aA.below p p.size a E
 ·exact(a.row q (λ Q z=>aP (by have:=(q.block Q z).1;omega))).mono E
theorem H2 (a:aR) (ZJ:a.Ok) {k:ax} {e j:F} (ZT:bH e j=ae) (Zw:bG e j=k):dJ 43 [100,105,115,99,111,117,110,116] k a (bf a (cB a.s a.xs a.s (cX a.s (aH a.s-1)) e j)).1 (bf a (cB a.s a.xs a.s (cX a.s (aH a.s-1)) e j)).2:=by
 have o:U (ai [100,105,115,99,111,117,110,116]=aN #[100,105,115,99,111,117,110,116]):=ab I;subst Zw;refine cc ?_;intro z b c d f i g l m n x w t s u;obtain⟨k,J⟩:∃k,(cB a.s a.xs a.s (cX a.s (aH a.s-1)) e j)=k:=⟨_,I⟩;refine qb ?_;intro r;have ZG:U (∀p,an p c d a.xs->bp 99 #[am a.s c d f,ba #[M e,M j]] p k):= λ p Zv=>by rw[<- J];exact Ee a.s _ _ _ _ _ a.xs p Zv ZJ.m
 exact xi
theorem H3 (a:aR) (ZJ:a.Ok) {k:ax} {e j:F} (ZT:bH e j=ae) (Zw:bG e j=k):dJ 43 [114,101,108,105,97,98,108,101] k a (bf a (cB a.s a.xs a.s (dv a.xs) e j)).1 (bf a (cB a.s a.xs a.s (dv a.xs) e j)).2:=by
 have o:U (ai [114,101,108,105,97,98,108,101]=aN #[114,101,108,105,97,98,108,101]):=ab I;subst Zw;refine cc ?_;intro z b c d f i g l m n x w t s u;obtain⟨k,J⟩:∃k,(cB a.s a.xs a.s (dv a.xs) e j)=k:=⟨_,I⟩;refine qb ?_;intro r;have ZG:U (∀p,an p c d a.xs->bp 100 #[am a.s c d f,ba #[M e,M j]] p k):= λ p Zv=>by rw[<- J];exact Ed a.s _ _ _ _ _ a.xs p Zv ZJ.m
 exact xi
theorem OD (a:aR) (Zv:a.Ok) {k:ax} {e j:F} (ZT:bH e j=ae) (Zu:bG e j=k):dJ 43 [109,105,120] k a (bf a (cB a.s a.xs a.t a.ys e j)).1 (bf a (cB a.s a.xs a.t a.ys e j)).2:=by
 have o:U (ai [109,105,120]=aN #[109,105,120]):=ab I;subst Zu;refine cc ?_;intro z b c d f i g l m n x w t s u;obtain⟨k,J⟩:∃k,(cB a.s a.xs a.t a.ys e j)=k:=⟨_,I⟩;refine qb ?_;intro r;have ZG:U (∀p,an p c d a.xs->an p i g a.ys->bp 101 #[am a.s c d f,am a.t i g l,ba #[M e,M j]] p k):= λ p Zt Zs=>by rw[<- J];exact tu a.s a.t _ _ _ _ _ _ _ _ a.xs a.ys p Zt Zs
 generalize ai (bG e j)=Ze at r ⊢;clear J Zv ZT;go_enter func43,ntmps43;go_wp2_with fail;refine qd ?_;intro ZP y Z7 Z5 K v A ZY;obtain⟨Z4,Z3,Z2,Z1,Z0,ZZ,S,T,V,W,X,Y,L,N,O,P,Q,R⟩:=cq v bA;clear Z5 Z7 K r;go_wp2_with fail;obtain⟨Z8,H⟩:∃Zw,(y.alloc (al #[M e,M j] 55)).alloc (al #[M 0,aa aj 0 0] 29)=Zw:=⟨_,I⟩;rw[H];refine s8 ?_;intro ZQ Z9 ZU B C D G ZV ZN ZW;have ZJ:=au A Z9;have ZF:an Z8 c d a.xs:=(t.row.below ZJ).view;have ZC:an Z8 i g a.ys:=(s.row.below ZJ).view;clear H ZU Z9 v A ZY Z4 Z3 Z2 Z1 Z0 ZZ S T V W X Y L N O P Q R;refine(ZG.o _ ZF ZC).mono ?_;refine s1 ?_;intro ZH ZM ZK ZL ZR q ZS ZO D G B C ZX;have ZI:=au ZJ q;obtain⟨Z4,Z3,Z2,Z1,Z0,ZZ,S,T,V,W,X,Y,L,N,O,P,Q,R⟩:=cq ZX bA;clear ZW ZJ ZF ZC ZS ZG q;exact sl
theorem KF (a:aR) (ZF:a.Ok) {k:ax} {e j:F} (ZT:bH e j=ae) (ZC:bG e j=k):dJ 43 [115,105,109,112,108,101] k a (bf a (gq a.s a.a e j)).1 (bf a (gq a.s a.a e j)).2:=by
 have o:U (ai [115,105,109,112,108,101]=aN #[115,105,109,112,108,101]):=ab I;subst ZC;refine cc ?_;intro z b c d f i g l m n x w t s u;obtain⟨k,J⟩:∃k,(gq a.s a.a e j)=k:=⟨_,I⟩;refine qb ?_;intro r;have ZJ:U (∀p,bp 102 #[M a.s,M a.a,ba #[M e,M j]] p k):= λ p=>by rw[<- J];exact D5 a.s a.a _ _ p
 generalize ai (bG e j)=Zw at r ⊢;clear J ZF ZT;go_enter func43,ntmps43;go_wp2_with fail;refine qd ?_;intro ZP y Z7 Z5 K v A ZY;obtain⟨Z4,Z3,Z2,Z1,Z0,ZZ,S,T,V,W,X,Y,L,N,O,P,Q,R⟩:=cq v bA;clear Z5 Z7 K r;go_wp2_with fail;refine iU ?_;intro Z8 H;refine s8 ?_;intro ZQ Z9 ZU B C D G ZV ZN ZW;have ZG:=au A Z9;clear H ZU Z9 v A ZY Z4 Z3 Z2 Z1 Z0 ZZ S T V W X Y L N O P Q R;refine(ZJ.o _).mono ?_;refine s1 ?_;intro ZH ZM ZK ZL ZR q ZS ZO D G B C ZX;have ZI:=au ZG q;obtain⟨Z4,Z3,Z2,Z1,Z0,ZZ,S,T,V,W,X,Y,L,N,O,P,Q,R⟩:=cq ZX bA;clear ZW ZG ZS ZJ q;exact sl
theorem rG (a:aR) (Z9 t:ax) (Z0:t.length<=100000) (X:∀S T,bH S T=ae->bG S T≠t):dJ 43 Z9 t a [110,111] a:=by
 intro ZX b ZO ZU Y;have ZZ:=Y;obtain⟨D,B,u,F,C,w,z,x,rfl,ZS,ZR,ZT⟩:=Y;have r:U (∀G,aC 98 #[aE (ai t)] G (bz 0 0 ak)):= λ G=>Em t G Z0 X
 generalize ai t=ZW at r ⊢;generalize ai Z9=ZV;clear X;go_enter func43,ntmps43;go_wp2_with fail;refine qd ?_;intro ZP y Z7 Z5 K v A ZY;obtain⟨Z8,Z6,Z4,Z3,Z2,Z1,m,n,o,p,q,s,f,g,i,j,k,l⟩:=cq v bA;clear Z5 Z7 K r;go_wp2_with fail;obtain⟨c,d⟩:∃c,((((((y.setCell (ad (b.heap.size+1) 0) (M a.s)).setCell (ad (b.heap.size+1) 1) (aa D B u)).setCell (ad (b.heap.size+1) 2) (M a.t)).setCell (ad (b.heap.size+1) 3) (aa F C w)).setCell (ad (b.heap.size+1) 4) (M a.a)).setCell (ad (b.heap.size+1) 5) (aa z a.gg.length x))=c:=⟨_,I⟩;rw[d];have V:=eP A (Nat.le_succ _) (M a.s) (aa D B u) (M a.t) (aa F C w) (M a.a) (aa z a.gg.length x);have W:=(ZZ.enter A aZ).leave (ie (C:=b.heap.size+1) (B:=b.heap.size+1+1) E E (M a.s) (aa D B u) (M a.t) (aa F C w) (M a.a) (aa z a.gg.length x));rw[d] at V W;have ZQ:b.heap.size+1<c.heap.size:=by rw[<- d];simp[ZY]
 have J: c.cell? (ad (b.heap.size+1) 0)=Z (M a.s):=by rw[<- d];simp[go_sem,f,g,i,j,k,l,m,n,o,p,q,s]
 have L: c.cell? (ad (b.heap.size+1) 1)=Z (aa D B u):=by rw[<- d];simp[go_sem,f,g,i,j,k,l,m,n,o,p,q,s]
 have N: c.cell? (ad (b.heap.size+1) 2)=Z (M a.t):=by rw[<- d];simp[go_sem,f,g,i,j,k,l,m,n,o,p,q,s]
 have O: c.cell? (ad (b.heap.size+1) 3)=Z (aa F C w):=by rw[<- d];simp[go_sem,f,g,i,j,k,l,m,n,o,p,q,s]
 have P: c.cell? (ad (b.heap.size+1) 4)=Z (M a.a):=by rw[<- d];simp[go_sem,f,g,i,j,k,l,m,n,o,p,q,s]
 have Q: c.cell? (ad (b.heap.size+1) 5)=Z (aa z a.gg.length x):=by rw[<- d];simp[go_sem,f,g,i,j,k,l,m,n,o,p,q,s]
 clear d Z8 Z6 Z4 Z3 Z2 Z1 m n o p q s f g i j k l v;obtain⟨H,R⟩:∃H,c.alloc (al #[M 0,M 0] 55)=H:=⟨_,I⟩;rw[R];have e:ap c H:=by rw[<- R];exact aD
 clear R;replace J:=ag e J;replace L:=ag e L;replace N:=ag e N;replace O:=ag e O;replace P:=ag e P;replace Q:=ag e Q;refine aK (v:=aL #[ba #[M a.s,aa D B u,M a.t,aa F C w,M a.a,aa z a.gg.length x],aE (ai ([110,111]++[10]))]) (by simp[aJ,results43,go_sem,J,L,N,O,P,Q];rfl) I ?_;exact⟨⟨_,I,W.below e⟩,au V e⟩
theorem kx {d:ax} {i:ac} (m:d.length<=100000) (l:bP d=Z i) (e:af):aY prog 104 #[aE (ai d)] e λ h f=>(∃a c b,h=aV (aL #[aa a c b,aw ae]) /\ av f e.heap.size (aa a c b) i) /\ ap e f :=
 (Aj (ai d) e (by rw[bs];omega)).mono λ h f j=>by
  obtain⟨⟨n,rfl,g⟩,k⟩:=j;rw[cE,l] at g ⊢;obtain⟨a,c,b,rfl,_⟩:=g.ints;exact⟨⟨a,c,b,I,g⟩,k⟩
theorem M8 {a:ax} (l:a.length<=100000) (k:bP a=aj) (e:af):aY prog 104 #[aE (ai a)] e λ g f=>(∃b d c,g=aV (aL #[aa b d c,aw ak])) /\ ap e f :=
 (Aj (ai a) e (by rw[bs];omega)).mono λ g f i=>by
  obtain⟨⟨m,rfl,h⟩,j⟩:=i;rw[cE,k] at h ⊢;obtain⟨b,d,c,rfl,_⟩:=h.ints;exact⟨⟨b,d,c,I⟩,j⟩
theorem mA (a:aR) (p:ax) {e:ax} (j:e.length<=100000) (k:bP e=aj):dJ 44 p e a [110,111] a:=by
 intro J b Z4 Z o;have w:=o;obtain⟨c,d,f,i,g,l,m,n,rfl,Z7,Z6,Z9⟩:=o;have G:U (∀Z2,aY prog 104 #[aE (ai e)] Z2 λ Q Z1=>(∃Z0 ZY ZZ,Q=aV (aL #[aa Z0 ZY ZZ,aw ak])) /\ ap Z2 Z1):=M8 j k;generalize ai e=L at G ⊢;generalize ai p=N;clear j k;go_enter func44,ntmps44;go_wp2_with fail;refine jR ?_;intro Z8 D B;rintro Q Z3 ⟨⟨O,Z5,P,rfl⟩,K⟩;refine kl ?_;intro q T;clear B D K G;obtain⟨R,S,ZX,W,X,Y,y,z,A,C,F,H,r,s,t,u,v,x⟩:=cq q bA;go_wp2;refine aK (v:=aL #[ba #[M a.s,aa c d f,M a.t,aa i g l,M a.a,aa m a.gg.length n],aE (ai ([110,111]++[10]))]) (by simp[aJ,results44,go_sem,r,s,t,u,v,x,y,z,A,C,F,H];rfl) I ?_;exact wL
theorem KG (a:aR) (ZY:a.Ok) {YY:ax} {Y9:ac} (YX:YY.length<=100000) (YW:bP YY=Z Y9):dJ 44 [108,111,119,101,115,116] YY a (cM (em a.s a.xs Y9)) a:=by
 have o:U (ai [108,111,119,101,115,116]=aN #[108,111,119,101,115,116]):=ab I;refine cc ?_;intro z b c d f i g l m n x w t s u;refine bk ?_;intro G;obtain⟨y,Z4⟩:∃y,(em a.s a.xs Y9)=y:=⟨_,I⟩;rw[Z4];have ZZ:U (∀e J K T,an e c d a.xs->an e J K Y9->aC 106 #[am a.s c d f,aa J K T] e (bz y.num y.den y.ok)):= λ e J K T ZX ZV=>by rw[<- Z4];exact zA a.s _ _ _ _ _ _ a.xs Y9 e ZX ZV
 exact xB
theorem Jt (a:aR) (ZY:a.Ok) {YY:ax} {Y9:ac} (YX:YY.length<=100000) (YW:bP YY=Z Y9) (ZV:Y9.length<=100):dJ 44 [104,105,103,104,101,115,116] YY a (cM (fB a.s a.xs Y9)) a:=by
 have o:U (ai [104,105,103,104,101,115,116]=aN #[104,105,103,104,101,115,116]):=ab I;refine cc ?_;intro z b c d f i g l m n x w t s u;refine bk ?_;intro G;obtain⟨y,Z4⟩:∃y,(fB a.s a.xs Y9)=y:=⟨_,I⟩;rw[Z4];have ZZ:U (∀e J K T,an e c d a.xs->an e J K Y9->aC 107 #[am a.s c d f,aa J K T] e (bz y.num y.den y.ok)):= λ e J K T ZU ZX=>by rw[<- Z4];exact D8 a.s _ _ _ _ _ _ a.xs Y9 e ZU ZX (by rw[<- ZX.len];exact ZV)
 exact xB
theorem KH (a:aR) (ZZ:a.Ok) {YY:ax} {Y9:ac} (YX:YY.length<=100000) (YW:bP YY=Z Y9):dJ 44 [108,101,118,101,108,115] YY a (bf a (eM Y9)).1 (bf a (eM Y9)).2:=by
 have o:U (ai [108,101,118,101,108,115]=aN #[108,101,118,101,108,115]):=ab I;refine cc ?_;intro z b c d f i g l m n x w t s u;refine bk ?_;intro G;obtain⟨p,v⟩:∃p,(eM Y9)=p:=⟨_,I⟩;rw[v];have A:U (∀e j k r,an e c d a.xs->an e j k Y9->bp 108 #[aa j k r] e p):= λ e j k r ZP ZQ=>by rw[<- v];exact Er _ _ _ Y9 e ZQ
 exact su
theorem Nv (a:aR) (ZZ:a.Ok) {YY:ax} {Y9:ac} (YX:YY.length<=100000) (YW:bP YY=Z Y9):dJ 44 [109,111,118,101] YY a (bf a (ek a.s a.xs Y9)).1 (bf a (ek a.s a.xs Y9)).2:=by
 have o:U (ai [109,111,118,101]=aN #[109,111,118,101]):=ab I;refine cc ?_;intro z b c d f i g l m n x w t s u;refine bk ?_;intro G;obtain⟨p,v⟩:∃p,(ek a.s a.xs Y9)=p:=⟨_,I⟩;rw[v];have A:U (∀e j k r,an e c d a.xs->an e j k Y9->bp 109 #[am a.s c d f,aa j k r] e p):= λ e j k r ZQ ZP=>by rw[<- v];exact EX a.s _ _ _ _ _ _ a.xs Y9 e ZQ ZP
 exact su
theorem KI (a:aR) (ZZ:a.Ok) {YY:ax} {Y9:ac} (YX:YY.length<=100000) (YW:bP YY=Z Y9):dJ 44 [99,111,114,110,101,114] YY a (bf a (dX a.s a.xs Y9)).1 (bf a (dX a.s a.xs Y9)).2:=by
 have o:U (ai [99,111,114,110,101,114]=aN #[99,111,114,110,101,114]):=ab I;refine cc ?_;intro z b c d f i g l m n x w t s u;refine bk ?_;intro G;obtain⟨p,v⟩:∃p,(dX a.s a.xs Y9)=p:=⟨_,I⟩;rw[v];have A:U (∀e j k r,an e c d a.xs->an e j k Y9->bp 110 #[am a.s c d f,aa j k r] e p):= λ e j k r ZQ ZP=>by rw[<- v];exact DU a.s _ _ _ _ _ _ a.xs Y9 e ZQ ZP
 exact su
theorem HB (a:aR) {YY:ax} {Y9:ac} (YX:YY.length<=100000) (YW:bP YY=Z Y9) {y:ac} (ZL:dN a.s a.xs Y9=Z y):dJ 44 [111,117,116,101,114] YY a (b2 y) a:=by
 refine p9 ?_;intro o;refine cc ?_;intro z b c d f i g l m n x w t s u;refine bk ?_;intro G;have Zx:U (∀e J K T,an e c d a.xs->an e J K Y9->aY prog 111 #[am a.s c d f,aa J K T] e λ H ZS=>lK (Z y) e.heap.size H ZS /\ ap e ZS):= λ e J K T Zu Zt=>by rw[<- ZL];exact zy a.s _ _ _ _ _ _ a.xs Y9 e Zu Zt
 have Z1:U (h5 y /\ (y).length<=16):=rq ZL;have Z5:U (∀Z0 Z2 ZZ e,an e Z0 Z2 y->aC 35 #[aa Z0 Z2 ZZ] e (aE (ai (b2 y)))):= λ Z0 Z2 ZZ e ZB=>qk Z0 Z2 ZZ y e ZB Z1.o.1 (by have:=ZB.len;have:=Z1.o.2;omega)
 have ZV:U (∀e,aC 40 #[aw ae,aE (ai (b2 y))] e (aE (ai ((b2 y)++[10])))):= λ e=>(le ae (b2 y) e (by have:=jX Z1.o.1 Z1.o.2;omega)).mono λ H ZS ZD=>⟨by rw[ZD.1];rfl,by rw[<- ZD.2];exact Below.refl _ _⟩
 generalize ai (b2 y)=Zr at Z5 ZV;generalize ai YY=Zs at G ⊢;clear YX YW ZL;go_enter func44,ntmps44;go_wp2_with fail;refine jR ?_;intro Z8 D B;refine ox ?_;intro A J K T Z7 W q X Y Z9;clear B D W G;obtain⟨N,O,P,Q,R,S,ZK,ZJ,ZI,ZH,ZG,ZF,ZR,ZQ,ZP,ZO,ZN,ZM⟩:=cq q bA;go_wp2_with fail;clear N O P Q R S ZK ZJ ZI ZH ZG ZF ZR ZQ ZP ZO ZN ZM;refine(Zx.o _ _ _ _ Y Z9).mono ?_;rintro H C ⟨⟨Z6,rfl,Zy⟩,ZC⟩;obtain⟨Zq,Z2,ZZ,rfl,ZY⟩:=Zy.ints;simp only[Option.getD_some,Option.getD_none,Option.isSome_some,Option.isSome_none] at ZY ⊢;have Z4:=q.below ZC;have Zw:=au X ZC;clear Zy q Y Z9 Z7;go_wp2_with fail;refine sD ?_;refine s6 ?_;intro L p;refine bR 3 I (λ k j=>?_);refine qc ?_;rintro H Zv ⟨rfl,r⟩;have ZU:=au L r;go_simp;have v:aA (b.heap.size+1) (b.heap.size+1+1) C Zv:=aA.of_below ZU;refine eu ?_;intro p;refine y6 ?_;intro k ZT j r F v;refine eu ?_;intro p;clear j k r v;obtain⟨N,O,P,Q,R,S,ZK,ZJ,ZI,ZH,ZG,ZF,ZR,ZQ,ZP,ZO,ZN,ZM⟩:=cq Z4 F;refine bR 5 I (λ k j=>?_);refine c7 ?_;clear j k;refine bR 6 I (λ k j=>?_);refine c7 ?_;refine eh ?_;clear j k;replace F:=au Zw F;go_wp2;refine aK (v:=aL #[ba #[M a.s,aa c d f,M a.t,aa i g l,M a.a,aa m a.gg.length n],aE (ai ((b2 y)++[10]))]) (by simp[aJ,results44,go_sem,ZR,ZQ,ZP,ZO,ZN,ZM,ZK,ZJ,ZI,ZH,ZG,ZF]) I ?_;exact xE
theorem H4 (a:aR) {YY:ax} {Y9:ac} (YX:YY.length<=100000) (YW:bP YY=Z Y9) (ZA:dN a.s a.xs Y9=aj):dJ 44 [111,117,116,101,114] YY a ([110,111]) a:=by
 refine p9 ?_;intro o;refine cc ?_;intro z b c d f i g l m n x w t s u;refine bk ?_;intro G;have Zy:U (∀e J K T,an e c d a.xs->an e J K Y9->aY prog 111 #[am a.s c d f,aa J K T] e λ H ZS=>lK (aj) e.heap.size H ZS /\ ap e ZS):= λ e J K T Zu Zt=>by rw[<- ZA];exact zy a.s _ _ _ _ _ _ a.xs Y9 e Zu Zt
 have Z2:U (h5 ([]:ac) /\ (([]:ac)).length<=16):=⟨λ Zp Zw=>by simp at Zw,ar⟩;have Z5:U (∀Z0 y Z1 e,an e Z0 y ([]:ac)->aC 35 #[aa Z0 y Z1] e (aE (ai (b2 ([]:ac))))):= λ Z0 y Z1 e ZD=>qk Z0 y Z1 ([]:ac) e ZD Z2.o.1 (by have:=ZD.len;have:=Z2.o.2;omega)
 have ZV:U (∀e,aC 40 #[aw ak,aE (ai (b2 ([]:ac)))] e (aE (ai (([110,111])++[10])))):= λ e=>(le ak (b2 ([]:ac)) e (by have:=jX Z2.o.1 Z2.o.2;omega)).mono λ H ZS ZG=>⟨by rw[ZG.1];rfl,by rw[<- ZG.2];exact Below.refl _ _⟩
 generalize ai (b2 ([]:ac))=Zr at Z5 ZV;generalize ai YY=Zs at G ⊢;clear YX YW ZA;go_enter func44,ntmps44;go_wp2_with fail;refine jR ?_;intro Z8 D B;refine ox ?_;intro A J K T Z7 W q X Y Z9;clear B D W G;obtain⟨N,O,P,Q,R,S,ZM,ZL,ZK,ZJ,ZI,ZH,ZZ,ZR,ZQ,ZP,ZO,ZN⟩:=cq q bA;go_wp2_with fail;clear N O P Q R S ZM ZL ZK ZJ ZI ZH ZZ ZR ZQ ZP ZO ZN;refine(Zy.o _ _ _ _ Y Z9).mono ?_;rintro H C ⟨⟨Z6,rfl,Zz⟩,ZF⟩;obtain⟨Zq,y,Z1,rfl,ZY⟩:=Zz.ints;simp only[Option.getD_some,Option.getD_none,Option.isSome_some,Option.isSome_none] at ZY ⊢;have Z4:=q.below ZF;have Zx:=au X ZF;clear Zz q Y Z9 Z7;go_wp2_with fail;refine sD ?_;refine s6 ?_;intro L p;refine bR 3 I (λ k j=>?_);refine qc ?_;rintro H Zv ⟨rfl,r⟩;have ZU:=au L r;go_simp;have v:aA (b.heap.size+1) (b.heap.size+1+1) C Zv:=aA.of_below ZU;refine eu ?_;intro p;refine y6 ?_;intro k ZT j r F v;refine eu ?_;intro p;clear j k r v;obtain⟨N,O,P,Q,R,S,ZM,ZL,ZK,ZJ,ZI,ZH,ZZ,ZR,ZQ,ZP,ZO,ZN⟩:=cq Z4 F;refine bR 5 I (λ k j=>?_);refine c7 ?_;clear j k;refine bR 6 I (λ k j=>?_);refine c7 ?_;refine eh ?_;clear j k;replace F:=au Zx F;go_wp2;refine aK (v:=aL #[ba #[M a.s,aa c d f,M a.t,aa i g l,M a.a,aa m a.gg.length n],aE (ai (([110,111])++[10]))]) (by simp[aJ,results44,go_sem,ZZ,ZR,ZQ,ZP,ZO,ZN,ZM,ZL,ZK,ZJ,ZI,ZH]) I ?_;exact xE
theorem FI {P:Program} {w:af} (f:J) (b m a:TypeId) (j:TypeInfo) (l:J) (e:P.underlying b=Z (.slice a)) (d: P.info? a=Z j)
  (c:ay) (k:J) (n:aU ay) (i:w.ownsRow f a l c k n) (g:J):
  (Builtin.append_ #[b,b] m #[c,aa aj 0 g]).run P w=.ok c w:=by
 rcases i.2 with ⟨rfl,rfl⟩ | ⟨q,o,p,rfl,_,_,h,_⟩
 ·simp[Builtin.append_,run_underlying e,sizeOf,typeInfo,d,Builtin.lenOf,Builtin.firstCells]
 ·simp[Builtin.append_,run_underlying e,sizeOf,typeInfo,d,Builtin.lenOf,Builtin.firstCells,h,storeCells]
theorem EC {a:Program} {g:af} {m:bg bD} {rest:aU bD} {b:bD} {c:Act} {h:Exit->Act->af->Prop} (t:b.guard=aj) (n p:Operand) (e:TypeId)
  (v:b.op=.call {callee:=.builtin .append,args:=#[n,p],argTypes:=#[e,e]})
  (i:J) (d:TypeId) (k:TypeInfo) (o:J) (z:a.underlying e=Z (.slice d)) (u: a.info? d=Z k)
  (f:ay) (l:J) (q:aU ay) (y:c.eval n=f) (w:g.ownsRow i d o f l q) (j:J) (A:c.eval p=aa aj 0 j)
  (r:wpList a m h rest (c.put b.dst f) g):wpList a m h (b::rest) c g:=by
 refine wpList_plain t λ B s=>?_
 have x:=FI (P:=a) (w:=g) i e b.type d k o z u f l q w j;unfold Oper.wp;simp[execOp,v,resolve,invoke,builtin,y,A,x,Result.andThen];exact s _ _ r
theorem zO {b:af} {F:bg bD} {rest:aU bD} {n:bD} {l:Act} {u:Exit->Act->af->Prop} (w:n.guard=aj) (o q:Operand)
  (A:n.op=.call {callee:=.builtin .append,args:=#[o,q],argTypes:=#[30,30]})
  (h:J) (d:ay) (k:J) (p:aU ay) (B:l.eval o=d) (s:b.ownsRow h 27 1 d k p)
  (t:aG) (j r:J) (c:aU ay) (C:l.eval q=aa t j r) (y:c.length=j) (z:∀m a,c[m]? =Z a->∃g,t=Z g /\ b.cell? (g.add m)=Z a) (H:∀a∈c,a.oneCell'=ae)
  (U:k+j<1000000) (K:h<=b.heap.size)
  (v:∀e f,f.ownsRow h 27 1 e (k+j) (p++c)->b.grownBy f d.ownBlock->(e.ownBlock=d.ownBlock \/ e.ownBlock=Z b.heap.size)->wpList prog F u rest (l.put n.dst e) f):
  wpList prog F u (n::rest) l b:=by
 obtain⟨D,x,N,O,P⟩:=info_parts um;cases t with
 | none =>
  have G:c=[]:=by
   cases c with
   | nil=>rfl
   | cons a V=>obtain⟨g,i,_⟩:=z 0 a I;cases i
  subst G
  simp at y
  subst y
  refine EC w o q 30 A h 27 D 1 underlying30 x d k p B s r C ?_
  exact v d b (by simpa using s) (hI _ _) (bj I)
 | some g =>
  refine wpList_append_own_at b w o q 30 A h 27 D (aa aj 0 0) 1 24 underlying30 x N O P I aX d k p B s g j r c C E ?_ H (by unfold maxLen;omega) E K λ e f Q R _ S=>v e f Q R S
  intro m a M
  obtain⟨T,i,L⟩:=z m a M
  injection i with i
  subst i
  exact L
theorem KJ (a c b:J):(⟨a,c,aj⟩:Addr).add b=⟨a,c+b,aj⟩:=by unfold Addr.add;split<;>simp_all
theorem M9 {a:aU (ac)} {d:ac} {b:J} (c:b<a.length):aO (a++[d]) b=aO a b:=by
 unfold aO;simp[List.getElem?_append,c]
theorem KK (a:aU (ac)) (b:ac):aO (a++[b]) a.length=b:=by
 unfold aO;simp
theorem Na {g wf:af} {l:J->Prop} {x:aG} {n:aU (ac)} {d:aU ay} {u:ac} {i:aG} {k j o c:J} (M:∀e,cA l g e->pp e x n d) (r:∀b,l b->b<g.heap.size) (z:ap g wf)
  (L:av wf o (aa i k j) u) (B:g.heap.size<=o) (O:g.heap.size<=c) (s:c<wf.heap.size) (C:∀t f,(d++[aa i k j])[t]? =Z f-> wf.cell? (ad c t)=Z f):n6 wf l (Z (ad c 0)) (n++[u]):=by
 have A:=gE.new L (λ b a=>cm (r b a) B);refine⟨d++[aa i k j],λ e h=>?_⟩;have q:=M e (cA.of_below z h);have H:=q.len;refine⟨by simp[H],λ b f a=>⟨⟨c,0,I,cm s h.size,?_⟩,?_⟩⟩
 ·rw[Nat.zero_add];have y:=C b f a;rw[<- y];exact eR (h.block c s (λ m=>by have:=r _ m;omega))
 ·rcases hX b d.length with K | D
  ·rw[List.getElem?_append_left K] at a;obtain⟨_,v,N,w,m,F⟩:=q.cell b f a;exact⟨v,N,w,m,by rw[M9 E];exact F⟩
  ·rw[List.getElem?_append_right D] at a;have G:b-d.length=0:=by
    rcases Nat.eq_zero_or_pos (b-d.length) with p | p
    ·exact p
    ·rw[List.getElem?_eq_none (by simp;omega)] at a;cases a
   rw[G] at a;injection a with a
   obtain rfl:b=n.length:=E;exact⟨i,k,j,a.symm,by rw[KK];exact(A e h).view⟩
theorem KL (a:aR) (p:a.Ok) {YY:ax} {Y9:ac} (YX:YY.length<=100000) (YW:bP YY=Z Y9) (ZR:(b7 a.s Y9&&decide (a.gg.length<8))=ak):dJ 44 [97,99,116] YY a [110,111] a:=by
 have o:U (ai [97,99,116]=aN #[97,99,116]):=ab I;refine cc ?_;intro z b c d f i g l m n x w t s u;refine bk ?_;intro G;have ZU:=ab p.m;generalize ai YY=ZQ at G ⊢;clear YX YW p;go_enter func44,ntmps44;go_wp2_with fail;refine jR ?_;intro Z8 D B;refine ox ?_;intro A J K T Z7 W q X Y Z9;clear B D W G;refine yD ?_;intro C;rw[show aI a.s a.xs=ae from ZU.o,eo] at C;obtain⟨V,Z5,Z4,Z3,Z2,Z1,N,O,P,Q,R,S,j,k,r,v,y,L⟩:=cq q bA;cases ZX:b7 a.s Y9;all_goals
  go_wp2_with fail;clear V Z5 Z4 Z3 Z2 Z1 N O P Q R S j k r v y L;refine(C.o).mono ?_;rw[ZX];rintro H ZO ⟨rfl,ZY⟩;have ZW:=q.below ZY;have ZT:=au X ZY;obtain⟨V,Z5,Z4,Z3,Z2,Z1,N,O,P,Q,R,S,j,k,r,v,y,L⟩:=cq ZW bA;try (rw[ZX,eo,decide_eq_false_iff_not] at ZR;have ZP:(8:F)<=(a.gg.length:F):=E)
  go_wp2;refine aK (v:=aL #[ba #[M a.s,aa c d f,M a.t,aa i g l,M a.a,aa m a.gg.length n],aE (ai ([110,111]++[10]))]) (by simp[aJ,results44,go_sem,j,k,r,v,y,L,N,O,P,Q,R,S];rfl) I ?_;have ZZ:=eP (B:=b.heap.size+1) ZT E (M a.s) (aa c d f) (M a.t) (aa i g l) (M a.a) (aa m a.gg.length n);exact⟨⟨_,I,w.below ZZ⟩,ZZ⟩
theorem Ju (a:aR) (ZA:a.Ok) {YY:ax} {Y9:ac} (YX:YY.length<=100000) (YW:bP YY=Z Y9) (Zx:b7 a.s Y9=ae) (Y7:a.gg.length<8):dJ 44 [97,99,116] YY a [111,107] ⟨a.s,a.xs,a.t,a.ys,a.a,a.gg++[Y9]⟩:=by
 have o:U (ai [97,99,116]=aN #[97,99,116]):=ab I;refine cc ?_;intro z b c d f i g l m n x w t s u;obtain⟨ZN,ZG⟩:=u;have ZK:=ab ZG;have Zg:=(ZG b (cA.refl _ _)).len;refine bk ?_;intro G;have ZC:=ab ZA.m;have ZD:=ab Zx;generalize ai YY=Za at G ⊢;clear YX YW ZA Zx ZG;go_enter func44,ntmps44;go_wp2_with fail;refine pW ?_;intro S L D B;have Y4:=D.size;have O: S.frozen? (ad b.heap.size 5)=ak:=by rw[<- L];simp
 have y:=B.e.2.2.2.2.2;clear L;refine(G.o _).mono ?_;refine ox ?_;intro A J K T Z7 W q X Y Z9;replace O:=aB W y O;replace y:=ag W y;have Y3:=B.z;have Y2:=W.size;clear B D W G;refine yD ?_;intro C;rw[show aI a.s a.xs=ae from ZC.o,ZD.o,eo] at C;obtain⟨ZX,ZW,ZV,ZU,ZT,Zw,P,Q,R,V,Z8,Z5,Z4,Z3,Z2,Z1,ZL,ZZ⟩:=cq q bA;go_wp2_with fail;clear ZX ZW ZV ZU ZT Zw P Q R V Z8 Z5 Z4 Z3 Z2 Z1 ZL ZZ;refine(C.o).mono ?_;rintro H r ⟨rfl,N⟩;have Zy:=q.below N;have Zz:=au X N;replace O:=aB N y O;replace y:=ag N y;have Zh:=Z7.below N;have Y1:=Zy.z;have Zn:U (∀ZJ,ap r ZJ->∀j k,ZN[j]? =Z k->∃ZB,m=Z ZB /\ ZJ.cell? (ZB.add j)=Z k):= λ ZJ Zj j k v=>by
  obtain⟨⟨ZY,Zc,H,Y6,ZQ⟩,_⟩:=(ZK.o r (cA.of_below Zz (cA.refl _ _))).cell j k v;exact⟨⟨ZY,Zc,aj⟩,H,by rw[KJ];exact ag Zj ZQ⟩
 have Zm:U (∀k∈ZN,k.oneCell'=ae):= λ k ZP=>by
  obtain⟨j,v⟩:=List.getElem?_of_mem ZP;obtain⟨_,Z0,Y0,Y8,H,_⟩:=(ZK.o b (cA.refl _ _)).cell j k v;subst H;rfl
 have Zl:0+a.gg.length+1=(a.gg++[Y9]).length:=ar;obtain⟨ZX,ZW,ZV,ZU,ZT,Zw,P,Q,R,V,Z8,Z5,Z4,Z3,Z2,Z1,ZL,ZZ⟩:=cq Zy bA;clear C N X q Y Z9 Z7 ZC ZD;go_wp2_with (first | (at_builtin;refine zO rfl _ _ rfl r.heap.size (aq r.heap.size 0 0) 0 [] a6 (fF r #[] 0 aZ (by unfold maxLen;omega) rfl) m a.gg.length n ZN a6 Zg (Zn.o _ (az r _)) Zm.o E ar ?_;intro Zb Zq ZE Zr Zd;have ZI:ap r Zq:=cV (az r _) ar Zr (λ ZY H=>by have:=dD H;omega);have Zt:=ZI.size;clear Zr Zd) | (at_builtin;refine zO rfl _ _ rfl r.heap.size Zb (0+a.gg.length) ([]++ZN) a6 (ZE.alloc _) (Z (ad Zq.heap.size 0)) 1 1 [aa J K T] a6 rfl (λ j k v=>⟨_,rfl,by cases j with | zero=>(simp at v;subst v;simp[Addr.add]) | succ j=>(simp at v)⟩) (λ k ZP=>by simp at ZP;subst ZP;rfl) E (by simp;omega) ?_;intro YZ Zp ZF Zs Zf;have p:ap r Zp:=cV (ZI.alloc Zt _) (by simp;omega) Zs (λ ZY H=>(ZE.lt ZY H).1);clear Zs Zf ZI Zt ZE;rw[Zl] at ZF;obtain⟨F,ZO,rfl,Y5,Zi⟩:=ZF.form ar;replace ZX:=ag p ZX;replace ZW:=ag p ZW;replace ZV:=ag p ZV;replace ZU:=ag p ZU;replace ZT:=ag p ZT;replace Zw:=ag p Zw;replace Z4:=aB p P Z4;replace Z3:=aB p Q Z3;replace Z2:=aB p R Z2;replace Z1:=aB p V Z1;replace ZL:=aB p Z8 ZL;replace ZZ:=aB p Z5 ZZ;replace P:=ag p P;replace Q:=ag p Q;replace R:=ag p R;replace V:=ag p V;replace Z8:=ag p Z8;replace Z5:=ag p Z5;replace O:=aB p y O;replace y:=ag p y));have Zu:=Zh.below p;have Zk:=au Zz p;refine aK (v:=aL #[ba #[M a.s,aa c d f,M a.t,aa i g l,M a.a,aq F (a.gg.length+1) ZO],aE (ai ([111,107]++[10]))]) (by simp[aJ,results44,go_sem,Z4,Z3,Z2,Z1,ZL,ZZ,P,Q,R,V,Z8,Z5];rfl) I ?_;have ZR:=eP (B:=b.heap.size+1) (Zk.setCell (p:=(ad b.heap.size 5)) aZ (aq F (a.gg.length+1) ZO)) E (M a.s) (aa c d f) (M a.t) (aa i g l) (M a.a) (aq F (a.gg.length+1) ZO);have ZH:aA b.heap.size (b.heap.size+1+1) Zp _:=(aA.set (b:=b.heap.size) (o:=5) (v:=aq F (a.gg.length+1) ZO) ⟨bL _,E⟩).trans (ie (C:=b.heap.size+1) E E (M a.s) (aa c d f) (M a.t) (aa i g l) (M a.a) (aq F (a.gg.length+1) ZO));refine⟨⟨_,I,c,d,f,i,g,l,Z (ad F 0),ZO,ar,t.mono λ _ ZM=>cA.of_below ZR ZM,s.mono λ _ ZM=>cA.of_below ZR ZM,Na ZK.o x ZR (ZH.row Zu λ Ze H=>aP (by have:=(Zu.block Ze H).1;omega)) E E (cm Zi ZH.size) λ j k v=>?_⟩,ZR⟩;have ZQ:=ZF.cells (g:=F) I j k v;exact ZH.keep (b:=F) (o:=j) (by rw[CE] at ZQ;exact ZQ) (aP E)
theorem OE (a:aR) (e:a.Ok) {d:ax} {b:ac} (g:d.length<=100000) (h:bP d=Z b):dJ 44 [97,99,116] d a (if b7 a.s b&&decide (a.gg.length<8) then gh ⟨a.s,a.xs,a.t,a.ys,a.a,a.gg++[b]⟩ else cs a).1 (if b7 a.s b&&decide (a.gg.length<8) then gh ⟨a.s,a.xs,a.t,a.ys,a.a,a.gg++[b]⟩ else cs a).2:=by
 cases f:(b7 a.s b&&decide (a.gg.length<8))
 ·exact KL a e g h f
 ·have c:=f;rw[b9,hB] at c;exact Ju a e g h c.1 c.2
end Go.Proofs.YtkjnhlpccgjfhaaGreatDoor
