/- Lemmas. -/
import Derived.Test.YtkjnhlpccgjfhaaGreatDoorC36
set_option linter.all false
set_option maxRecDepth 100000
set_option maxHeartbeats 4000000
namespace Go.Proofs.YtkjnhlpccgjfhaaGreatDoor
open Go.RowKit
open Go.Proofs.Tryz
open Bool renaming false->ak,true->ae
open _root_.ByteArray renaming data_extract->Dy,ext->lN,mk->aN,size->eX
open Go renaming Calls->aY,Value->ay,World->af,bodyPost_ret->aK,results->aJ
open Go.Act renaming put->aT
open Go.Ending renaming returned->aV
open Go.IntWalk renaming i64_in->bV
open Go.Lib renaming index->gA
open Go.Obj renaming cells->al
open Go.Value renaming agg->ba,bool->aw,slice->aa,string->aE,tuple->aL
open Go.World renaming drew->dH
open List renaming getElem?_eq_getElem->fV,getElem?_map->jE,length_append->dm,length_cons->jG,length_map->ec
open Nat renaming le_refl->bL,le_trans->ez,lt_of_lt_of_le->cm,lt_succ_self->gB
open Option renaming none->aj,some->Z
open Or renaming inl->bj,inr->aP
open _root_ renaming Int->F,Nat->J,UInt8->b3,absurd->bC,congrArg->be,if_neg->aF,if_pos->a7,rfl->I
variable {p q:Prop}
theorem uV {l d:af} {a:J} {s t u v w x f g h i j k m n o p q r:ay} (F:gG l a s t u v w x m n o p q r) (b:aA a (a+1) l d)
  (y: d.cell? (ad a 0)=Z f /\ d.cell? (ad a 1)=Z g /\ d.cell? (ad a 2)=Z h /\ d.cell? (ad a 3)=Z i /\ d.cell? (ad a 4)=Z j /\ d.cell? (ad a 5)=Z k):gG d a f g h i j k m n o p q r:=by
 obtain⟨_,⟨G,H,I,K,L,M⟩,⟨z,A,B,C,D,E⟩,e⟩:=F;have c:a+1<a \/ a+1<=a+1:=aP aZ;exact⟨y,⟨b.keep G c,b.keep H c,b.keep I c,b.keep K c,b.keep L c,b.keep M c⟩,⟨(b.keepF ⟨e,z⟩ c).2,(b.keepF ⟨e,A⟩ c).2,(b.keepF ⟨e,B⟩ c).2,(b.keepF ⟨e,C⟩ c).2,(b.keepF ⟨e,D⟩ c).2,(b.keepF ⟨e,E⟩ c).2⟩,cm e b.size⟩
theorem IY (r:aR) {ZC:ax} {a:F} {V:ac} (Zz:aI a V=ae) (Zu:bd a V=ZC):dJ 12 [108,101,102,116] ZC r [111,107] ⟨a,V,r.t,r.ys,r.a,r.gg⟩:=by
 refine mV ?_;intro o;subst Zu;refine cc ?_;intro z b c d f i g l m n x w t s u;refine zs ?_;intro Zn;refine sY ?_;intro ZP;generalize ai (bd a V)=Zr at Zn ⊢;go_enter func12,ntmps12;go_wp2_with fail;refine pW ?_;intro S L D B;have ZE: S.frozen? (ad b.heap.size 0)=ak:=by rw[<- L];simp
 have ZD: S.frozen? (ad b.heap.size 1)=ak:=by rw[<- L];simp
 clear L;refine(Zn.o _).mono ?_;rintro P ZJ ⟨⟨Zp,rfl,ZL⟩,K⟩;refine kl ?_;intro q T;obtain⟨J,R,Q,rfl,_⟩:=ZL.ints;replace ZE:=aB K (B.e.1) ZE;replace ZD:=aB K (B.e.2.1) ZD;have Zq:=B.z;clear B D K Zn;obtain⟨v,y,A,C,G,H,ZW,ZV,ZU,ZT,ZS,ZR,Z3,Z2,Z1,Z0,ZZ,ZY⟩:=cq q bA;go_wp2_with fail;clear v y A C G H ZW ZV ZU ZT ZS ZR Z3 Z2 Z1 Z0 ZZ ZY;refine yw ?_;intro Z5 X W Z9;have Zt:=W.z;have ZM:=ZL.below X;obtain⟨v,y,A,C,G,H,ZW,ZV,ZU,ZT,ZS,ZR,Z3,Z2,Z1,Z0,ZZ,ZY⟩:=cq W bA;refine hd ?_;intro N Z7;have ZK:aA b.heap.size (b.heap.size+1) Z5 N:=by
  exact xz
 have Zy:ap b N:=aA.below Z9 Z9.size ZK aZ;have Z8:gG N b.heap.size (M a) (aa J R Q) (M r.t) (aa i g l) (M r.a) (aa m r.gg.length n) _ _ _ _ _ _:=uV W ZK (by rw[<- Z7];refine⟨?_,?_,?_,?_,?_,?_⟩<;>simp[go_sem,v,y,A,C,G,H,Zt]);have Zw:=ZK.row ZM (λ ZX P=>aP (by have:=(ZM.block ZX P).1;omega));clear Z7 v y A C G H ZW ZV ZU ZT ZS ZR Z3 Z2 Z1 Z0 ZZ ZY q W X ZL ZM;refine sC ?_;intro ZQ Z4 e Y p;clear Y;obtain⟨v,y,A,C,G,H,ZW,ZV,ZU,ZT,ZS,ZR,Z3,Z2,Z1,Z0,ZZ,ZY⟩:=cq Z8 e;refine bR 3 I (λ k j=>?_);refine c7 ?_;clear j k;refine bR 4 I (λ k j=>?_);refine c7 ?_;refine eh ?_;clear j k;have ZF:=Zw.below e;replace e:=au Zy e;go_wp2;refine aK (v:=aL #[ba #[M a,aa J R Q,M r.t,aa i g l,M r.a,aa m r.gg.length n],aE (ai (([111,107])++[10]))]) (by simp[aJ,results12,go_sem,Z3,Z2,Z1,Z0,ZZ,ZY,ZW,ZV,ZU,ZT,ZS,ZR];first | done | rfl) I ?_;have ZN:=eP (B:=b.heap.size+1) e E (M a) (aa J R Q) (M r.t) (aa i g l) (M r.a) (aa m r.gg.length n);have Zv:=(ie (w2:=_) (A:=b.heap.size+1) (B:=b.heap.size+1+1) (C:=b.heap.size+1) aZ (gB _) (M a) (aa J R Q) (M r.t) (aa i g l) (M r.a) (aa m r.gg.length n)).row ZF (λ ZX P=>aP (by have:=(ZF.block ZX P).1;omega));exact⟨⟨_,I,J,R,Q,i,g,l,m,n,I,gE.new Zv (λ ZX Zx=>by have:=x ZX Zx;omega),s.mono λ _ ZO=>cA.of_below ZN ZO,u.mono λ _ ZO=>cA.of_below ZN ZO⟩,ZN⟩
theorem Jv (a:aR) {y:ax} (R:y.length<=100000) (Q:∀ZW ZV,aI ZW ZV=ae->bd ZW ZV≠y):dJ 12 [108,101,102,116] y a [110,111] a:=by
 refine mV ?_;intro o;exact xp
theorem HC (r:aR) {ZC:ax} {a:F} {V:ac} (Zz:aI a V=ae) (Zu:bd a V=ZC):dJ 12 [114,105,103,104,116] ZC r [111,107] ⟨r.s,r.xs,a,V,r.a,r.gg⟩:=by
 refine mW ?_;intro o;subst Zu;refine cc ?_;intro z b c d f i g l m n x w t s u;refine zs ?_;intro Zn;refine sY ?_;intro ZP;generalize ai (bd a V)=Zr at Zn ⊢;go_enter func12,ntmps12;go_wp2_with fail;refine pW ?_;intro S L D B;have ZE: S.frozen? (ad b.heap.size 2)=ak:=by rw[<- L];simp
 have ZD: S.frozen? (ad b.heap.size 3)=ak:=by rw[<- L];simp
 clear L;refine(Zn.o _).mono ?_;rintro P ZJ ⟨⟨Zp,rfl,ZL⟩,K⟩;refine kl ?_;intro q T;obtain⟨J,R,Q,rfl,_⟩:=ZL.ints;replace ZE:=aB K (B.e.2.2.1) ZE;replace ZD:=aB K (B.e.2.2.2.1) ZD;have Zq:=B.z;clear B D K Zn;obtain⟨v,y,A,C,G,H,ZW,ZV,ZU,ZT,ZS,ZR,Z3,Z2,Z1,Z0,ZZ,ZY⟩:=cq q bA;go_wp2_with fail;clear v y A C G H ZW ZV ZU ZT ZS ZR Z3 Z2 Z1 Z0 ZZ ZY;refine yw ?_;intro Z5 X W Z9;have Zt:=W.z;have ZM:=ZL.below X;obtain⟨v,y,A,C,G,H,ZW,ZV,ZU,ZT,ZS,ZR,Z3,Z2,Z1,Z0,ZZ,ZY⟩:=cq W bA;refine hd ?_;intro N Z7;have ZK:aA b.heap.size (b.heap.size+1) Z5 N:=by
  exact xz
 have Zy:ap b N:=aA.below Z9 Z9.size ZK aZ;have Z8:gG N b.heap.size (M r.s) (aa c d f) (M a) (aa J R Q) (M r.a) (aa m r.gg.length n) _ _ _ _ _ _:=uV W ZK (by rw[<- Z7];refine⟨?_,?_,?_,?_,?_,?_⟩<;>simp[go_sem,v,y,A,C,G,H,Zt]);have Zw:=ZK.row ZM (λ ZX P=>aP (by have:=(ZM.block ZX P).1;omega));clear Z7 v y A C G H ZW ZV ZU ZT ZS ZR Z3 Z2 Z1 Z0 ZZ ZY q W X ZL ZM;refine sC ?_;intro ZQ Z4 e Y p;clear Y;obtain⟨v,y,A,C,G,H,ZW,ZV,ZU,ZT,ZS,ZR,Z3,Z2,Z1,Z0,ZZ,ZY⟩:=cq Z8 e;refine bR 3 I (λ k j=>?_);refine c7 ?_;clear j k;refine bR 4 I (λ k j=>?_);refine c7 ?_;refine eh ?_;clear j k;have ZF:=Zw.below e;replace e:=au Zy e;go_wp2;refine aK (v:=aL #[ba #[M r.s,aa c d f,M a,aa J R Q,M r.a,aa m r.gg.length n],aE (ai (([111,107])++[10]))]) (by simp[aJ,results12,go_sem,Z3,Z2,Z1,Z0,ZZ,ZY,ZW,ZV,ZU,ZT,ZS,ZR];first | done | rfl) I ?_;have ZN:=eP (B:=b.heap.size+1) e E (M r.s) (aa c d f) (M a) (aa J R Q) (M r.a) (aa m r.gg.length n);have Zv:=(ie (w2:=_) (A:=b.heap.size+1) (B:=b.heap.size+1+1) (C:=b.heap.size+1) aZ (gB _) (M r.s) (aa c d f) (M a) (aa J R Q) (M r.a) (aa m r.gg.length n)).row ZF (λ ZX P=>aP (by have:=(ZF.block ZX P).1;omega));exact⟨⟨_,I,c,d,f,J,R,Q,m,n,I,t.mono (λ _ ZO=>cA.of_below ZN ZO),gE.new Zv (λ ZX Zx=>by have:=x ZX Zx;omega),u.mono λ _ ZO=>cA.of_below ZN ZO⟩,ZN⟩
theorem IZ (a:aR) {y:ax} (R:y.length<=100000) (Q:∀ZW ZV,aI ZW ZV=ae->bd ZW ZV≠y):dJ 12 [114,105,103,104,116] y a [110,111] a:=by
 refine mW ?_;intro o;exact xp
theorem Jw (a:aR) {R:ax} {r:J} (ZT:eH R=Z r):dJ 12 [115,101,116] R a [111,107] ⟨a.s,a.xs,a.t,a.ys,(r:F),a.gg⟩:=by
 refine m2 ?_;intro o;refine cc ?_;intro z b c d f i g l m n x w t s u;have W:U (∀O,aC 41 #[aE (ai R)] O (aL #[M (r:F),aw ae])):= λ O=>by have ZU:=tq R O;rw[ZT] at ZU;exact ZU
 refine sY ?_;intro ZP;generalize ai R=ZM at W ⊢;clear ZT;go_enter func12,ntmps12;go_wp2_with fail;refine pW ?_;intro S L D B;have ZR: S.frozen? (ad b.heap.size 4)=ak:=by rw[<- L];simp
 clear L;refine(W.o _).mono ?_;rintro P ZN ⟨rfl,K⟩;refine kl ?_;intro q T;replace ZR:=aB K (B.e.2.2.2.2.1) ZR;clear B D K W;obtain⟨v,y,A,C,G,H,Z0,ZZ,ZY,ZX,ZW,ZV,X,Z9,Z7,Z5,Z3,Z2⟩:=cq q bA;go_wp2_with fail;refine hd ?_;intro N Z1;have ZS:aA b.heap.size (b.heap.size+1) ZN N:=by
  rw[<- Z1];exact aA.set ⟨bL _,gB _⟩
 have ZO:ap b N:=aA.below T T.size ZS aZ;have Z8:gG N b.heap.size (M a.s) (aa c d f) (M a.t) (aa i g l) (M (r:F)) (aa m a.gg.length n) _ _ _ _ _ _:=uV q ZS (by rw[<- Z1];refine⟨?_,?_,?_,?_,?_,?_⟩<;>simp[go_sem,v,y,A,C,G,H,q.z]);clear Z1 v y A C G H Z0 ZZ ZY ZX ZW ZV X Z9 Z7 Z5 Z3 Z2 q;refine sC ?_;intro ZQ Z4 e Y p;clear Y;obtain⟨v,y,A,C,G,H,Z0,ZZ,ZY,ZX,ZW,ZV,X,Z9,Z7,Z5,Z3,Z2⟩:=cq Z8 e;refine bR 3 I (λ k j=>?_);refine c7 ?_;clear j k;refine bR 4 I (λ k j=>?_);refine c7 ?_;refine eh ?_;clear j k;replace e:=au ZO e;go_wp2;refine aK (v:=aL #[ba #[M a.s,aa c d f,M a.t,aa i g l,M (r:F),aa m a.gg.length n],aE (ai (([111,107])++[10]))]) (by simp[aJ,results12,go_sem,X,Z9,Z7,Z5,Z3,Z2,Z0,ZZ,ZY,ZX,ZW,ZV];first | done | rfl) I ?_;have V:=eP (B:=b.heap.size+1) e E (M a.s) (aa c d f) (M a.t) (aa i g l) (M (r:F)) (aa m a.gg.length n);exact⟨⟨_,I,c,d,f,i,g,l,m,n,I,t.mono (λ _ Q=>cA.of_below V Q),s.mono (λ _ Q=>cA.of_below V Q),u.mono λ _ Q=>cA.of_below V Q⟩,V⟩
theorem KM (a:aR) {y:ax} (ZY:eH y=aj):dJ 12 [115,101,116] y a [110,111] a:=by
 refine m2 ?_;intro o;refine cc ?_;intro z b c d f i g l m n x w t s u;have G:U (∀e,aC 41 #[aE (ai y)] e (aL #[M 0,aw ak])):= λ e=>by have J:=tq y e;rw[ZY] at J;exact J
 refine yq ?_;intro H;generalize ai y=ZW at G ⊢;clear ZY;go_enter func12,ntmps12;go_wp2_with fail;refine jR ?_;intro Z8 D B;rintro Z5 A ⟨rfl,K⟩;refine kl ?_;intro q T;clear B D K G;obtain⟨L,N,O,P,Q,R,Z4,Z3,Z2,Z1,Z0,ZZ,W,X,Y,Zx,Z9,Z7⟩:=cq q bA;go_wp2_with fail;clear L N O P Q R Z4 Z3 Z2 Z1 Z0 ZZ W X Y Zx Z9 Z7;refine ia ?_;intro C p;refine bR 2 I (λ k j=>?_);go_simp;refine(H.o _).mono ?_;rintro Z5 ZX ⟨rfl,r⟩;have F:=au C r;go_simp;have v:aA (b.heap.size+1) (b.heap.size+1+1) A ZX:=aA.of_below F;refine eu ?_;intro p;clear j k r v;obtain⟨L,N,O,P,Q,R,Z4,Z3,Z2,Z1,Z0,ZZ,W,X,Y,Zx,Z9,Z7⟩:=cq q F;refine bR 3 I (λ k j=>?_);refine c7 ?_;clear j k;refine bR 4 I (λ k j=>?_);refine c7 ?_;refine eh ?_;clear j k;replace F:=au T F;exact vN
theorem GH (a:aR) (J:a.Ok) (N:ax) {y:ac} (ZR:dl a.xs N=y) (Z7:y≠[]):dJ 12 [116,97,98,108,101] N a (b2 y) a:=by
 have o:U (ai [116,97,98,108,101]=aN #[116,97,98,108,101]):=ab I;refine cc ?_;intro z b c d f i g l m n x w t s u;refine yZ ?_;intro S O Z5;have X:U (∀e,aC 40 #[aw ae,aE (ai (b2 y))] e (aE (ai ((b2 y)++[10])))):= λ e=>(le ae (b2 y) e (by have:=jX O.o.1 O.o.2;omega)).mono λ W ZD J=>⟨by rw[J.1];rfl,by rw[<- J.2];exact Below.refl _ _⟩
 have Y:U (0<y.length):=by exact List.length_pos_iff.2 Z7
 generalize ai (b2 y)=ZB at Z5 X;generalize ai N=ZC at S ⊢;clear ZR Z7 J;go_enter func12,ntmps12;go_wp2_with fail;refine iU ?_;intro A D;refine jh ?_;intro B q K;clear D;refine(S.o _ K).mono ?_;rintro W C ⟨⟨Z6,rfl,Z9⟩,Zx⟩;obtain⟨ZA,P,ZS,rfl,ZY⟩:=Z9.ints;have G:(0:F)<(P:F):=by have Zz:=ZY.len;have Zy:=Y.o;omega
 have ZN:decide (0<P)=ae:=by simp;omega
 have R:=q.below Zx;have ZP:=au B Zx;clear Z9 q K Y;go_wp2_with fail;refine zh ?_;intro k L p j;refine qc ?_;rintro W ZO ⟨rfl,r⟩;have T:=au L r;refine sW ?_;intro v;refine eu ?_;intro p;clear j k r v;refine bR 6 I (λ k j=>?_);go_simp;try rw[ZN]
 refine(X.o _).mono ?_;rintro W ZF ⟨rfl,r⟩;have H:=au T r;go_simp;have v:aA (b.heap.size+1) (b.heap.size+1+1) C ZF:=aA.of_below H;refine eu ?_;intro p;clear j k r v;obtain⟨Z8,ZX,ZW,ZV,ZU,ZT,ZM,ZL,ZK,ZJ,ZH,ZG,Z4,Z3,Z2,Z1,Z0,ZZ⟩:=cq R H;refine bR 7 I (λ k j=>?_);refine c7 ?_;clear j k;refine bR 8 I (λ k j=>?_);refine c7 ?_;refine eh ?_;clear j k;replace H:=au ZP H;go_wp2;refine aK (v:=aL #[ba #[M a.s,aa c d f,M a.t,aa i g l,M a.a,aa m a.gg.length n],aE (ai ((b2 y)++[10]))]) (by simp[aJ,results12,go_sem,Z4,Z3,Z2,Z1,Z0,ZZ,ZM,ZL,ZK,ZJ,ZH,ZG];first | done | rfl) I ?_;exact pH
theorem Gk (a:aR) (J:a.Ok) (N:ax) {y:ac} (ZR:dl a.xs N=y) (ZJ:y=[]):dJ 12 [116,97,98,108,101] N a ([110,111]) a:=by
 have o:U (ai [116,97,98,108,101]=aN #[116,97,98,108,101]):=ab I;refine cc ?_;intro z b c d f i g l m n x w t s u;refine yZ ?_;intro S O Z5;have ZN:U (∀e,aC 40 #[aw ak,aE (ai (b2 y))] e (aE (ai (([110,111])++[10])))):= λ e=>(le ak (b2 y) e (by have:=jX O.o.1 O.o.2;omega)).mono λ ZP ZD J=>⟨by rw[J.1];rfl,by rw[<- J.2];exact Below.refl _ _⟩
 have ZM:U (y.length=0):=by subst ZJ;rfl
 generalize ai (b2 y)=ZB at Z5 ZN;generalize ai N=ZC at S ⊢;clear ZR ZJ J;go_enter func12,ntmps12;go_wp2_with fail;refine iU ?_;intro A D;refine jh ?_;intro B q K;clear D;refine(S.o _ K).mono ?_;rintro ZP C ⟨⟨Z6,rfl,ZK⟩,ZL⟩;obtain⟨ZA,P,ZS,rfl,ZY⟩:=ZK.ints;have G:P=0:=by have Zz:=ZY.len;have Zy:=ZM.o;omega
 subst G;have G:(0:F)<0↔False:=ar;have ZG:=trivial;have R:=q.below ZL;have ZH:=au B ZL;clear ZK q K ZM;go_wp2_with fail;refine zh ?_;intro k L p j;refine qc ?_;rintro ZP ZO ⟨rfl,r⟩;have T:=au L r;refine sW ?_;intro v;refine eu ?_;intro p;clear j k r v;refine bR 6 I (λ k j=>?_);go_simp;try rw[ZG]
 refine(ZN.o _).mono ?_;rintro ZP ZF ⟨rfl,r⟩;have H:=au T r;go_simp;have v:aA (b.heap.size+1) (b.heap.size+1+1) C ZF:=aA.of_below H;refine eu ?_;intro p;clear j k r v;obtain⟨Z8,ZX,ZW,ZV,ZU,ZT,Z4,Z3,Z2,Z1,Z0,ZZ,W,X,Y,Zx,Z9,Z7⟩:=cq R H;refine bR 7 I (λ k j=>?_);refine c7 ?_;clear j k;refine bR 8 I (λ k j=>?_);refine c7 ?_;refine eh ?_;clear j k;replace H:=au ZH H;go_wp2;refine sB ?_;exact pH
theorem Nb (a:aR) (d:a.Ok) (b:ax):dJ 12 [116,97,98,108,101] b a (if dl a.xs b=[] then cs a else (b2 (dl a.xs b),a)).1 (if dl a.xs b=[] then cs a else (b2 (dl a.xs b),a)).2:=by
 split
 ·rename_i c;exact Gk a d b I c
 ·rename_i c;exact GH a d b I c
theorem GI (a:aR) (ZY:a.Ok) {J:ax} (ZQ:J.length<=100000) {W:F} (ZW:cg J=Z W):dJ 12 [114,101,103,114,101,116] J a (cM (fw a.s a.xs a.gg W)) a:=by
 refine p5 ?_;intro o;refine cc ?_;intro z b c d f i g l m n x w t s u;obtain⟨ZF,Z9⟩:=u;have ZS:=(Z9 b (cA.refl _ _)).rows ZY.gl;obtain⟨y,Y⟩:∃y,fw a.s a.xs a.gg W=y:=⟨_,I⟩;rw[Y];have G:U (∀e,aC 45 #[aE (ai J)] e (aL #[M W,aw ae])):= λ e=>by
  exact wj
 have Z7:U (∀e,an e c d a.xs->dj e m a.gg.length a.gg->aC 46 #[am a.s c d f,aa m a.gg.length n,M W] e (bz y.num y.den y.ok)):= λ e ZI ZH=>by rw[<- Y];exact E4 a.s W _ _ _ _ _ _ a.xs a.gg e ZI ZH
 refine oh ?_;intro Z5;generalize ai J=ZG at G ⊢;clear Y ZY ZW ZQ Z9;go_enter func12,ntmps12;go_wp2_with fail;refine jR ?_;intro Z8 D B;rintro ZX A ⟨rfl,K⟩;refine kl ?_;intro q T;have ZR:an A c d a.xs:=(t.row.below T).view;have ZT:=ZS.below T;clear B D K G;go_wp2_with fail;refine ia ?_;intro C p;refine ov ?_;refine pQ ?_;refine bR 6 I (λ k j=>?_);go_simp;refine(Z7.o _ (ZR.below C) (ZT.below C)).mono ?_;rintro ZX Z4 ⟨rfl,r⟩;have H:=au C r;refine pR ?_;intro v;refine eu ?_;intro p;clear j k r v;refine sJ ?_;refine eq 8 (v:=?_) I p (λ e S=>?_) ?_;rotate_left
 ·obtain⟨L,N,O,P,Q,R⟩:=eJ q S;go_simp;first | done | rfl
 simp only[aT];refine bR 9 I (λ k j=>?_);go_simp;refine(Z5.o _).mono ?_;rintro ZX ZJ ⟨rfl,r⟩;have X:=au H r;go_simp;have v:aA (b.heap.size+1) (b.heap.size+1+1) A ZJ:=aA.of_below X;refine eu ?_;intro p;clear j k r v;obtain⟨L,N,O,P,Q,R,ZP,ZO,ZN,ZM,ZL,ZK,Z3,Z2,Z1,Z0,ZZ,ZU⟩:=cq q X;refine bR 10 I (λ k j=>?_);refine c7 ?_;clear j k;refine bR 11 I (λ k j=>?_);refine c7 ?_;refine eh ?_;clear j k;replace X:=au T X;go_wp2;refine aK (v:=aL #[ba #[M a.s,aa c d f,M a.t,aa i g l,M a.a,aa m a.gg.length n],aE (ai ((cM y)++[10]))]) (by simp[aJ,results12,go_sem,Z3,Z2,Z1,Z0,ZZ,ZU,ZP,ZO,ZN,ZM,ZL,ZK];first | done | rfl) I ?_;have V:=eP (B:=b.heap.size+1) X E (M a.s) (aa c d f) (M a.t) (aa i g l) (M a.a) (aa m a.gg.length n);exact kj
theorem HD (a:aR) {J:ax} (j:J.length<=100000) (ZW:cg J=aj):dJ 12 [114,101,103,114,101,116] J a [110,111] a:=by
 refine p5 ?_;intro o;refine cc ?_;intro z b c d f i g l m n x w t s u;have G:U (∀e,aC 45 #[aE (ai J)] e (aL #[M 0,aw ak])):= λ e=>by
  exact wj
 generalize ai J=k at G ⊢;clear ZW j;go_enter func12,ntmps12;go_wp2_with fail;refine jR ?_;intro Z8 D B;rintro ZX F ⟨rfl,K⟩;refine kl ?_;intro q T;clear B D K G;obtain⟨p,r,v,y,A,C,Z4,Z3,Z2,Z1,Z0,ZZ,W,X,Y,Zx,Z9,Z7⟩:=cq q bA;go_wp2;refine sB ?_;exact wL
theorem Nw {a t:ax} (b:aR) (g:a≠[108,101,102,116]) (o:a≠[114,105,103,104,116]) (p:a≠[115,101,116]) (r:a≠[116,97,98,108,101]) (m:a≠[114,101,103,114,101,116]) (e:a≠[100,105,115,99,111,117,110,116]) (n:a≠[114,101,108,105,97,98,108,101]) (j:a≠[109,105,120]) (q:a≠[115,105,109,112,108,101]) (k:a≠[109,111,118,101]) (d:a≠[99,111,114,110,101,114]) (Z7:a≠[108,101,118,101,108,115]) (l:a≠[111,117,116,101,114]) (i:a≠[108,111,119,101,115,116]) (f:a≠[104,105,103,104,101,115,116]) (c:a≠[97,99,116]):dJ 12 a t b iK b:=by
 have O:=bn g;have W:=bn o;have X:=bn p;have Z6:=bn r;have U:=bn m;have L:=bn e;have V:=bn n;have R:=bn j;have Y:=bn q;have S:=bn k;have K:=bn d;have P:=bn Z7;have T:=bn l;have Q:=bn i;have N:=bn f;have J:=bn c;clear g o p r m e n j q k d Z7 l i f c;intro C Z8 Z9 E s;have Z4:=s;obtain⟨A,y,u,B,z,v,x,w,rfl,G,H,F⟩:=s;generalize ai t=D;go_enter func12,ntmps12;go_wp2_with fail;refine aK (v:=aL #[ba #[M b.s,aa A y u,M b.t,aa B z v,M b.a,aa x b.gg.length w],aE (ai (iK++[10]))]) (by simp[aJ,results12,go_sem];first | done | rfl) I ?_;exact sm
theorem lI {d p:ax} {c b:aR} {i:ax} (a:ai d=aN #[100,105,115,99,111,117,110,116] \/ ai d=aN #[114,101,108,105,97,98,108,101] \/ ai d=aN #[109,105,120] \/ ai d=aN #[115,105,109,112,108,101]) (k:dJ 43 d p c i b):dJ 12 d p c i b:=by
 have j:=ab k;clear k;intro z e Z7 P n;have Q:=n;obtain⟨U,S,B,V,T,C,N,D,rfl,ZY,ZX,ZZ⟩:=n;rcases a with a | a | a | a
 all_goals
  rw[a];go_enter func12,ntmps12;go_wp2_with fail;obtain⟨q,f⟩:∃A,(e.alloc (al #[M c.s,aa U S B,M c.t,aa V T C,M c.a,aa N c.gg.length D] 32)).alloc (al #[M 0,aa aj 0 0,M 0,aa aj 0 0,M 0,aa aj 0 0] 32)=A:=⟨_,I⟩;rw[f];have ZU:ap e q:=by rw[<- f];exact aD
  have m:=jU (w:=e) f;have ZW:=m.z;clear f;have g:=ab (j.o (ha z e.heap.size (e.heap.size+1+1)) q _ (nA P ZU.size E) (Q.enter ZU aZ));rw[a] at g;refine g.o.mono ?_;rintro Z6 ZV ⟨⟨Z7,rfl,o⟩,l⟩;have R:=o;obtain⟨x,v,r,y,w,s,u,t,rfl,_,_,_⟩:=o;obtain⟨Z5,Z4,Z3,Z2,Z1,Z0,W,X,Y,ZT,Z9,Z8,F,G,H,J,K,L⟩:=cq m l;have O:=au ZU l;clear j g;go_wp2;refine aK (v:=aL #[ba #[M b.s,aa x v r,M b.t,aa y w s,M b.a,aa u b.gg.length t],aE (ai (i++[10]))]) (by simp[aJ,results12,go_sem,F,G,H,J,K,L,W,X,Y,ZT,Z9,Z8]) I ?_;exact⟨⟨_,I,R.leave (ie E E _ _ _ _ _ _)⟩,eP O E _ _ _ _ _ _⟩
theorem hS {b p:ax} {d c:aR} {i:ax} (a:ai b=aN #[109,111,118,101] \/ ai b=aN #[99,111,114,110,101,114] \/ ai b=aN #[108,101,118,101,108,115] \/ ai b=aN #[111,117,116,101,114] \/ ai b=aN #[108,111,119,101,115,116] \/ ai b=aN #[104,105,103,104,101,115,116] \/ ai b=aN #[97,99,116]) (k:dJ 44 b p d i c):dJ 12 b p d i c:=by
 have j:=ab k;clear k;intro z e Z7 P n;have Q:=n;obtain⟨U,S,B,V,T,C,N,D,rfl,ZY,ZX,ZZ⟩:=n;rcases a with a | a | a | a | a | a | a
 all_goals
  rw[a];go_enter func12,ntmps12;go_wp2_with fail;obtain⟨q,f⟩:∃A,(e.alloc (al #[M d.s,aa U S B,M d.t,aa V T C,M d.a,aa N d.gg.length D] 32)).alloc (al #[M 0,aa aj 0 0,M 0,aa aj 0 0,M 0,aa aj 0 0] 32)=A:=⟨_,I⟩;rw[f];have ZU:ap e q:=by rw[<- f];exact aD
  have m:=jU (w:=e) f;have ZW:=m.z;clear f;have g:=ab (j.o (ha z e.heap.size (e.heap.size+1+1)) q _ (nA P ZU.size E) (Q.enter ZU aZ));rw[a] at g;refine g.o.mono ?_;rintro Z6 ZV ⟨⟨Z7,rfl,o⟩,l⟩;have R:=o;obtain⟨x,v,r,y,w,s,u,t,rfl,_,_,_⟩:=o;obtain⟨Z5,Z4,Z3,Z2,Z1,Z0,W,X,Y,ZT,Z9,Z8,F,G,H,J,K,L⟩:=cq m l;have O:=au ZU l;clear j g;go_wp2;refine aK (v:=aL #[ba #[M c.s,aa x v r,M c.t,aa y w s,M c.a,aa u c.gg.length t],aE (ai (i++[10]))]) (by simp[aJ,results12,go_sem,F,G,H,J,K,L,W,X,Y,ZT,Z9,Z8]) I ?_;exact⟨⟨_,I,R.leave (ie E E _ _ _ _ _ _)⟩,eP O E _ _ _ _ _ _⟩
theorem OF (c:ep) (a:aR) (k:a.Ok) (i b:ax) (h:b.length<=100000):dJ 12 i b a (dt c a i b).1 (dt c a i b).2:=by
 by_cases q:i=[108,101,102,116]
 ·subst q;have d:dt c a [108,101,102,116] b=(match c.pm b with | some j=>gh ⟨j.1,j.2,a.t,a.ys,a.a,a.gg⟩ | none=>cs a):=rfl;rw[d];cases f:c.pm b with
  | none=>exact Jv a h (c.hm2 b f)
  | some j=>exact IY a (c.hm1 b j.1 j.2 f).1 (c.hm1 b j.1 j.2 f).2
 by_cases y:i=[114,105,103,104,116]
 ·subst y;have d:dt c a [114,105,103,104,116] b=(match c.pm b with | some j=>gh ⟨a.s,a.xs,j.1,j.2,a.a,a.gg⟩ | none=>cs a):=rfl;rw[d];cases f:c.pm b with
  | none=>exact IZ a h (c.hm2 b f)
  | some j=>exact HC a (c.hm1 b j.1 j.2 f).1 (c.hm1 b j.1 j.2 f).2
 by_cases z:i=[115,101,116]
 ·subst z;have d:dt c a [115,101,116] b=(match eH b with | some C=>gh ⟨a.s,a.xs,a.t,a.ys,(C:F),a.gg⟩ | none=>cs a):=rfl;rw[d];cases f:eH b with
  | none=>exact KM a f
  | some C=>exact Jw a f
 by_cases B:i=[116,97,98,108,101]
 ·subst B;exact Nb a k b
 by_cases w:i=[114,101,103,114,101,116]
 ·subst w;have d:dt c a [114,101,103,114,101,116] b=(match cg b with | some G=>(cM (fw a.s a.xs a.gg G),a) | none=>cs a):=rfl;rw[d];cases f:cg b with
  | none=>exact HD a h f
  | some G=>exact GI a k h f
 by_cases o:i=[100,105,115,99,111,117,110,116]
 ·subst o;refine yF ?_;intro d;cases f:c.pf b with
  | none=>exact lI (bj I) (rG a _ b h (c.hf2 b f))
  | some e=>exact lI (bj I) (H2 a k (c.hf1 b e.1 e.2 f).1 (c.hf1 b e.1 e.2 f).2)
 by_cases x:i=[114,101,108,105,97,98,108,101]
 ·subst x;refine zd ?_;intro d;cases f:c.pf b with
  | none=>exact lI (aP (bj I)) (rG a _ b h (c.hf2 b f))
  | some e=>exact lI (aP (bj I)) (H3 a k (c.hf1 b e.1 e.2 f).1 (c.hf1 b e.1 e.2 f).2)
 by_cases t:i=[109,105,120]
 ·subst t;have d:dt c a [109,105,120] b=(match c.pf b with | some e=>bf a (cB a.s a.xs a.t a.ys e.1 e.2) | none=>cs a):=rfl;rw[d];cases f:c.pf b with
  | none=>exact lI (aP (aP (bj I))) (rG a _ b h (c.hf2 b f))
  | some e=>exact lI (aP (aP (bj I))) (OD a k (c.hf1 b e.1 e.2 f).1 (c.hf1 b e.1 e.2 f).2)
 by_cases A:i=[115,105,109,112,108,101]
 ·subst A;have d:dt c a [115,105,109,112,108,101] b=(match c.pf b with | some e=>bf a (gq a.s a.a e.1 e.2) | none=>cs a):=rfl;rw[d];cases f:c.pf b with
  | none=>exact lI (aP (aP (aP (I)))) (rG a _ b h (c.hf2 b f))
  | some e=>exact lI (aP (aP (aP (I)))) (KF a k (c.hf1 b e.1 e.2 f).1 (c.hf1 b e.1 e.2 f).2)
 by_cases u:i=[109,111,118,101]
 ·subst u;have d:dt c a [109,111,118,101] b=(match bP b with | some g=>(bf a (ek a.s a.xs g)) | none=>cs a):=rfl;rw[d];cases f:bP b with
  | none=>exact hS (bj I) (mA a _ h f)
  | some g=>exact hS (bj I) (Nv a k h f)
 by_cases n:i=[99,111,114,110,101,114]
 ·subst n;have d:dt c a [99,111,114,110,101,114] b=(match bP b with | some g=>(bf a (dX a.s a.xs g)) | none=>cs a):=rfl;rw[d];cases f:bP b with
  | none=>exact hS (aP (bj I)) (mA a _ h f)
  | some g=>exact hS (aP (bj I)) (KI a k h f)
 by_cases r:i=[108,101,118,101,108,115]
 ·subst r;have d:dt c a [108,101,118,101,108,115] b=(match bP b with | some g=>(bf a (eM g)) | none=>cs a):=rfl;rw[d];cases f:bP b with
  | none=>exact hS (aP (aP (bj I))) (mA a _ h f)
  | some g=>exact hS (aP (aP (bj I))) (KH a k h f)
 by_cases v:i=[111,117,116,101,114]
 ·subst v;refine zc ?_;intro d;rw[d];cases f:bP b with
  | none=>exact hS (aP (aP (aP (bj I)))) (mA a _ h f)
  | some g=>exact(by
   show dJ 12 _ _ _ (match dN a.s a.xs g with | some b=>(b2 b,a) | none=>cs a).1 (match dN a.s a.xs g with | some b=>(b2 b,a) | none=>cs a).2;cases E:dN a.s a.xs g with
   | none=>exact hS (aP (aP (aP (bj I)))) (H4 a h f E)
   | some H=>exact hS (aP (aP (aP (bj I)))) (HB a h f E))
 by_cases s:i=[108,111,119,101,115,116]
 ·subst s;have d:dt c a [108,111,119,101,115,116] b=(match bP b with | some g=>((cM (em a.s a.xs g),a)) | none=>cs a):=rfl;rw[d];cases f:bP b with
  | none=>exact hS (aP (aP (aP (aP (bj I))))) (mA a _ h f)
  | some g=>exact hS (aP (aP (aP (aP (bj I))))) (KG a k h f)
 by_cases p:i=[104,105,103,104,101,115,116]
 ·subst p;have d:dt c a [104,105,103,104,101,115,116] b=(match bP b with | some g=>((cM (fB a.s a.xs g),a)) | none=>cs a):=rfl;rw[d];cases f:bP b with
  | none=>exact hS (aP (aP (aP (aP (aP (bj I)))))) (mA a _ h f)
  | some g=>exact hS (aP (aP (aP (aP (aP (bj I)))))) (Jt a k h f (by have D:=JL b;rw[f] at D;simp at D;omega))
 by_cases m:i=[97,99,116]
 ·subst m;refine yK ?_;intro d;rw[d];cases f:bP b with
  | none=>exact hS (aP (aP (aP (aP (aP (aP (I))))))) (mA a _ h f)
  | some g=>exact hS (aP (aP (aP (aP (aP (aP (I))))))) (OE a k h f)
 have d:dt c a i b=(iK,a):=by
  exact wm
 rw[d];exact Nw a q y z B w o x t A u n r v s p m
structure iS (w:af) (D:J) (a0 a1 a2 a3 a4 a5:ay):Prop where
 e: w.cell? (ad D 0)=Z a0 /\ w.cell? (ad D 1)=Z a1 /\ w.cell? (ad D 2)=Z a2 /\ w.cell? (ad D 3)=Z a3 /\ w.cell? (ad D 4)=Z a4 /\ w.cell? (ad D 5)=Z a5
 f: w.frozen? (ad D 0)=ak /\ w.frozen? (ad D 1)=ak /\ w.frozen? (ad D 2)=ak /\ w.frozen? (ad D 3)=ak /\ w.frozen? (ad D 4)=ak /\ w.frozen? (ad D 5)=ak
 z:D<w.heap.size
theorem iS.below {o w':af} {b:J} {c d e f g h:ay} (v:iS o b c d e f g h) (a:ap o w'):iS w' b c d e f g h:=by
 obtain⟨⟨i,j,k,l,m,n⟩,⟨p,q,r,s,t,u⟩,w⟩:=v;exact⟨⟨ag a i,ag a j,ag a k,ag a l,ag a m,ag a n⟩,⟨aB a i p,aB a j q,aB a k r,aB a l s,aB a m t,aB a n u⟩,cm w a.size⟩
theorem iS.put {C:af} {a:J} {i j k l m n:ay} (A:iS C a i j k l m n) (b c d e f g:ay):iS ((((((C.setCell (ad a 0) b).setCell (ad a 1) c).setCell (ad a 2) d).setCell (ad a 3) e).setCell (ad a 4) f).setCell (ad a 5) g) a b c d e f g:=by
 obtain⟨⟨o,p,q,r,s,t⟩,⟨u,v,w,x,y,z⟩,B⟩:=A;refine⟨⟨?_,?_,?_,?_,?_,?_⟩,⟨?_,?_,?_,?_,?_,?_⟩,?_⟩;all_goals first | (simp[go_sem,o,p,q,r,s,t,u,v,w,x,y,z];done) | simpa using B
theorem cA.span {a:J->Prop} {l m:J} {g wf c:af} (b:aA l m g wf) (j:∀k,l<=k->k<m->a k) (d:cA a wf c):cA a g c :=
 ⟨ez b.size d.size,λ k e f=>(d.block k (cm e b.size) f).trans (b.block k e (by
  by_cases h:k<l
  ·exact bj h
  ·exact aP (Nat.not_lt.1 λ i=>f (j k E i))))⟩
def mM (k:af) (b:J) (a:aR):Prop:=∃i g c j h d f e,iS k b (M a.s) (aa i g c) (M a.t) (aa j h d) (M a.a) (aa f a.gg.length e) /\ ff k (ha (λ _=>False) b (b+1)) a (ba #[M a.s,aa i g c,M a.t,aa j h d,M a.a,aa f a.gg.length e])
theorem mM.below {d w':af} {a:J} {c:aR} (i:mM d a c) (b:ap d w'):mM w' a c:=by
 obtain⟨n,l,e,o,m,f,h,g,j,k⟩:=i;exact⟨n,l,e,o,m,f,h,g,j.below b,k.below b⟩
theorem Dx {d:af} {a:J} (b:a<d.heap.size):∀c,ha (λ _=>False) a (a+1) c->c<d.heap.size:= λ c e=>e.elim (λ b=>b.elim) (λ b=>E)
theorem KN {k:af} {a:J} {m n o p q r:ay} {b:aR} {i:aG} {g c:J} {j:aG} {h d:J} {f:aG} {e:J} (s:iS k a m n o p q r) (v:ff k (ha (λ _=>False) a (a+1)) b (ba #[M b.s,aa i g c,M b.t,aa j h d,M b.a,aa f b.gg.length e])):
  mM ((((((k.setCell (ad a 0) (M b.s)).setCell (ad a 1) (aa i g c)).setCell (ad a 2) (M b.t)).setCell (ad a 3) (aa j h d)).setCell (ad a 4) (M b.a)).setCell (ad a 5) (aa f b.gg.length e)) a b :=
 ⟨i,g,c,j,h,d,f,e,s.put _ _ _ _ _ _,v.mono λ w l=>cA.span (ie (A:=a) (B:=a+1) (C:=a) aZ (gB _) _ _ _ _ _ _) (λ x t u=>aP ⟨t,u⟩) l⟩
theorem KO (c:ep) (d:aR) {a:ax} (b:ax) (e:(32:b3)∉a):gx c d (a++32::b)=dt c d a b:=by unfold gx;rw[o9 32 a b e]
theorem I3 (b:ep) (c:aR) {a:ax} (d:(32:b3)∉a):gx b c a=iI b c a:=by unfold gx;rw[rh 32 a d]
theorem Nx (a b:ax):(ai (a++32::b)).extract 0 a.length=ai a:=by
 apply lN;rw[Dy];simp[ai]
theorem Nc (a b:ax):(ai (a++32::b)).extract (a.length+1) (ai (a++32::b)).size=ai b:=by
 apply lN;rw[Dy];simp[ai,eX];rw[show a.length+(b.length+1)-(a.length+1)=b.length from E];exact List.take_length
theorem HE (s:J->Prop) (b:af) (u:∀a,s a->a<b.heap.size):aY prog 8 #[] b λ c n=>(∃x,c=aV x /\ ff n s eD x) /\ ap b n:=by
 go_enter func8,ntmps8;go_wp2_with fail;obtain⟨y,j⟩:∃B,b.alloc (al #[M 0,aa aj 0 0,M 0,aa aj 0 0,M 0,aa aj 0 0] 32)=B:=⟨_,I⟩;rw[j];have R:ap b y:=by rw[<- j];exact az _ _
 have o:iS y b.heap.size (M 0) (aa aj 0 0) (M 0) (aa aj 0 0) (M 0) (aa aj 0 0):=by
  rw[<- j];exact x5
 clear j;refine(qW 2 3 _ aX aX).mono ?_;rintro c Z7 ⟨⟨Z9,rfl,e⟩,v⟩;obtain⟨f,k,Z6,rfl,U⟩:=e.ints;have S:=au R v;have p:=o.below v;have Y:=o.z;clear U o;go_wp2_with fail;refine(qW 2 3 _ aX aX).mono ?_;rintro c m ⟨⟨Z8,rfl,r⟩,q⟩;obtain⟨g,l,i,rfl,V⟩:=r.ints;replace e:=e.below q;have T:=au S q;have X:=p.z;obtain⟨⟨C,D,E,F,G,H⟩,⟨K,L,N,O,P,Q⟩,W⟩:=p.below q;clear V p;go_wp2_with fail;refine aK (v:=ba #[M 2,aa f k Z6,M 2,aa g l i,M 1,aq m.heap.size 0 0]) (by simp[aJ,results8,go_sem,C,D,E,F,G,H,K,L,N,O,P,Q,W];first | done | rfl) I ?_;have w:aA b.heap.size (b.heap.size+1) m _:=ie (C:=b.heap.size) aZ (gB _) (M 2) (aa f k Z6) (M 2) (aa g l i) (M 1) (aq m.heap.size 0 0);have t:=eP (B:=b.heap.size) T aZ (M 2) (aa f k Z6) (M 2) (aa g l i) (M 1) (aq m.heap.size 0 0);have z:=(w.row e (λ a c=>aP (by have:=(e.block a c).1;omega))).below (az _ (al #[] 27));have A:=(w.row r (λ a c=>aP (by have:=(r.block a c).1;omega))).below (az _ (al #[] 27));refine⟨⟨_,I,f,k,Z6,g,l,i,_,_,I,gE.new z (λ a d=>by have:=u a d;omega),gE.new A (λ a d=>by have:=u a d;omega),[],λ n _=>⟨I,λ a Z5 d=>by simp at d⟩⟩,t.alloc t.size _⟩
theorem As (n:ep) (t:ax) (Yv:af) (c:t.length<=1048576):
  aC 5 #[aE (ai t)] Yv (aE (ai (hr n t))):=by
 by_cases ZB:20000<t.length
 ·have ZS:U (hr n t=[108,111,110,103,10]):=a7 ZB;have Yz:(20000:F)<((ai t).size:J):=by rw[bs];omega
  rw[ZS.o];clear ZB c;generalize ai t=Ys at *;go_enter func5,ntmps5;exact jP
 have ZS:U (hr n t=eb n (bo 10 t) 0 [] eD):=aF ZB;rw[ZS.o];clear ZS;have Yz:¬(20000:F)<((ai t).size:J):=by rw[bs];omega
 obtain⟨u,ZF⟩:∃u,eb n (bo 10 t) 0 [] eD=u:=⟨_,I⟩;have Zm:=ab ZF;rw[ZF];clear ZF;have ZO:U (∀(e:J) g,(bo 10 t)[e]? =Z g->g.length<=100000):= λ e g w=>by
  have:=nI 10 t g (List.mem_of_getElem? w);omega
 obtain⟨q,ZG⟩:∃q,bo 10 t=q:=⟨_,I⟩;have Zn:=ab ZG;rw[ZG] at Zm ZO;clear ZG;go_enter func5,ntmps5;go_wp2_with fail;refine(HE (λ _=>False) _ (λ _ a=>a.elim)).mono ?_;rintro Z0 ZY ⟨⟨Yf,rfl,Y9⟩,Zc⟩;have Y8:=Y9;obtain⟨Z5,Z7,V,Z4,Z6,W,Y,X,rfl,_,_,_⟩:=Y9;go_wp2_with fail;obtain⟨Zx,Z8⟩:∃YI,ZY.alloc (al #[M eD.s,aa Z5 Z7 V,M eD.t,aa Z4 Z6 W,M eD.a,aa Y eD.gg.length X] 32)=YI:=⟨_,I⟩;first | rw[Z8] | (simp only[eD] at Z8 ⊢;rw[Z8])
 have ZD:ap ZY Zx:=by rw[<- Z8];exact az _ _
 have ZE:iS Zx ZY.heap.size (M eD.s) (aa Z5 Z7 V) (M eD.t) (aa Z4 Z6 W) (M eD.a) (aa Y eD.gg.length X):=by
  rw[<- Z8];exact x5
 have ZH:mM Zx ZY.heap.size eD:=⟨Z5,Z7,V,Z4,Z6,W,Y,X,ZE,Y8.enter ZD aZ⟩;have Y6:=ZE.z;have YH:=au Zc ZD;have Ze:=Zc.size;obtain⟨m,Zf⟩:∃m,ZY.heap.size=m:=⟨_,I⟩;rw[Zf] at ZH Y6 Ze ⊢;clear Z8 ZE Y8 Zf ZD;refine(oG (ai t) 10 10 I _ (by rw[bs];omega)).mono ?_;rintro Z0 Y4 ⟨y,s,Yr,Y3,rfl,ZQ,ZP,ZC⟩;rw[cE,Zn.o] at ZP;obtain⟨Z3,Zg⟩:∃Z3,Y4.heap.size=Z3:=⟨_,I⟩;have Yp:y<Z3:=by rw[<- Zg];exact(cb.block ZQ y I).2
 have Yo:m<y:=cm Y6 (cb.block ZQ y I).1;have YG:m<Z3:=E;have YF:=ZH.below ZC;have Zh:=au YH ZC;have YJ:=ab ZP;have Zb:s=q.length:=by rw[ZQ.at.1,<- ZP,ec]
 have YO:U (∀(e:J) g,q[e]? =Z g->Y3[e]? =Z (ai g)):= λ e g w=>by
  rw[<- YJ.o,jE] at w;cases Y7:Y3[e]? with
  | none=>rw[Y7] at w;cases w
  | some Ye=>rw[Y7] at w;injection w with w;exact be Z (Dg w)
 have Yi:s<=100001:=by
  have K:=kD 10 t;rw[Zn.o] at K;omega
 have Zo:=ab Zb;clear ZC ZP ZH Zb Zg;go_wp2;go_loopw [4,6,7,8] (λ Yw ZA _ _ wr=>∃e:J,e<=s /\ ZA=M e /\ (∃(i:ax) (l:aR),Yw=aE (ai i) /\ i.length<=46100 /\ l.Ok /\ U (eb n (q.drop e) e i l=u) /\ mM wr m l) /\ bW m Z3 Y4 wr) (λ _ ZA _ _ _=>s-(intOf ZA).toNat)
 case atStart=>exact⟨0,E,I,⟨[],eD,I,ar,Da,Zm.o,YF⟩,bW.refl _ _ _⟩
 case round =>
  obtain⟨e,w,rfl,⟨i,l,rfl,Z9,A,H,L⟩,G⟩:=hrel;have ZV:=ZQ.spD G E E;have ZI:=bW.below Zh Zh.size G Ze YG;by_cases Yj:e<s
  ·have Ym:(0:F)<=(e:F):=E;have Yl:(e:F)<(s:F):=E;refine zm ?_;intro g ZX T ZW;clear ZV;by_cases ZR:g=[]
   ·subst ZR;refine p8 ?_;intro B;have o:U (eb n (q.drop (e+1)) (e+1) i l=u):=by rw[U,<- BZ n e i l T.o];exact H.o
    go_wp2;go_roundw
    case rel=>first | exact⟨e+1,E,by go_num,⟨i,l,rfl,Z9,A,o,L⟩,G⟩ | exact⟨_,⟨e+1,E,by go_num,⟨i,l,rfl,Z9,A,o,L⟩,G⟩,rfl⟩ | exact⟨_,_,⟨e+1,E,by go_num,⟨i,l,rfl,Z9,A,o,L⟩,G⟩,rfl,rfl⟩ | exact⟨_,_,_,⟨e+1,E,by go_num,⟨i,l,rfl,Z9,A,o,L⟩,G⟩,rfl,rfl,rfl⟩ | exact⟨_,_,_,_,⟨e+1,E,by go_num,⟨i,l,rfl,Z9,A,o,L⟩,G⟩,rfl,rfl,rfl,rfl⟩ | exact⟨_,_,_,_,_,⟨e+1,E,by go_num,⟨i,l,rfl,Z9,A,o,L⟩,G⟩,rfl,rfl,rfl,rfl,rfl⟩
    case measure=>simp[intOf];omega
   ·have B:(ai g).toList.isEmpty=ak:=kr g ak (by cases g with | nil=>exact bC I ZR | cons _ _=>rfl);have ZL:=ab ZR;clear ZR;by_cases P:100<=e \/ 40000<i.length
    ·have Zp:U (ai i++aN #[102,117,108,108,10]=ai u):=by
      exact wn
     have Yg:¬9223372036854775807<(ai i).size +(aN #[102,117,108,108,10]).size:=by rw[bs];simp[eX];omega
     by_cases Zj:100<=e
     ·have K:(100:F)<=(e:F):=E;clear P;exact pE
     ·exact xk
    ·have K:¬(100:F)<=(e:F):=E;have Zi:¬(40000:F)<((ai i).size:J):=by rw[bs];omega
     obtain⟨x,ZU⟩:=BY n A g;refine zq ?_;intro o;have Yn:y<m \/ m+1<=y:=aP E;have Yq:i.length<=40000:=E;clear P;obtain⟨Z5,Z7,V,Z4,Z6,W,Y,X,YE,Zd⟩:=L;by_cases ZJ:(32:b3)∈g
     ·obtain⟨p,r,YA,Za⟩:=List.eq_append_cons_of_mem ZJ;subst YA;rw[KO n l r Za] at x ZU o;have YB:p.length<=100000 /\ r.length<=100000:=by rw[dm,jG] at ZW;omega
      have Z2:=ab (OF n l A p r YB.2);have ZM:U (gA (ai (p++32::r)).data.toList [32]=p.length):=by rw[U,cE];exact q3 32 p r Za
      have YL:=ab (Nx p r);have YK:=ab (Nc p r);have YC:(ai (p++32::r)).size=p.length+1+r.length:=by rw[bs];simp;omega
      generalize dt n l p r=ZK at *;obtain⟨Z1,v⟩:=ZK;simp only at x ZU Z2 o;refine zb ?_;intro C D Zz;clear H;go_wp2_with fail;refine(AU (ai (p++32::r)) 32 32 I _ E).mono ?_;rw[ZM.o];rintro Z0 Yu ⟨rfl,rfl⟩;generalize ai (p++32::r)=Zk at *;have Yh:=Int.natCast_nonneg p.length;have Yk:(p.length:F)<=(Zk.size:F):=E;have Yy:IntKind.i64.wrap ((p.length:F)+1)=(p.length:F)+1:=bV _ E;have Zl:U (Zk.extract (p.length+1) (p.length+1+r.length)=ai r):=by rw[U,<- YC];exact YK.o
      have ZT:U True:=trivial;go_wp2_with fail;refine gJ (λ b:af=>aA m (m+1) wr b) (λ b=>iS b m (M l.s) (aa Z5 Z7 V) (M l.t) (aa Z4 Z6 W) (M l.a) (aa Y l.gg.length X)) 18 ah ?_;change de _ _ _ _ _ _ _ _ _ _ (dH wr);have z:=bI wr;refine zg ?_;intro d c;refine bX (i:=3) (v:=?_) I ah ah ah (λ _ _ _ a=>a) aX (Or.inl ⟨a6,λ b f=>?_⟩) d (λ _=>c) ?_;rotate_left
      ·go_simp;first | done | rfl
      simp only[aT];refine yA ?_;refine bX (i:=5) (v:=?_) I ah ah ah (λ _ _ _ a=>a) aX (Or.inl ⟨a6,λ b f=>?_⟩) d (λ _=>c) ?_;rotate_left
      ·go_simp;first | done | rfl
      simp only[aT];refine bX (i:=6) (v:=(aE (ai p))) I ah ah ah (λ _ _ _ a=>a) aX (Or.inl ⟨a6,λ b f=>?_⟩) d (λ _=>c) ?_
      ·go_simp;rw[a7 E,YL.o]
      simp only[aT];refine qa ?_;refine ol ?_;refine bX (i:=10) (v:=?_) I ah ah ah (λ _ _ _ a=>a) aX (Or.inl ⟨a6,λ b f=>?_⟩) d (λ _=>c) ?_;rotate_left
      ·have YD:=f.keep ZX E;have Y5:=ZT.o;go_simp;first | done | rfl
      simp only[aT];refine bX (i:=11) (v:=?_) I ah ah ah (λ _ _ _ a=>a) aX (Or.inl ⟨a6,λ b f=>?_⟩) d (λ _=>c) ?_;rotate_left
      ·go_simp;first | done | rfl
      simp only[aT];refine bX (i:=12) (v:=(M ((p.length:F)+1))) I ah ah ah (λ _ _ _ a=>a) aX (Or.inl ⟨a6,λ b f=>?_⟩) d (λ _=>c) ?_
      ·go_simp;first | done | exact Yy
      simp only[aT];refine bX (i:=13) (v:=(aE (ai r))) I ah ah ah (λ _ _ _ a=>a) aX (Or.inl ⟨a6,λ b f=>?_⟩) d (λ _=>c) ?_
      ·go_simp;first | done | (rw[a7 E,Zl.o];done) | (rw[Zl.o];done)
      simp only[aT];refine mT ?_;intro k j;go_simp;refine(Z2.o (ha (λ _=>False) m (m+1)) _ _ (Dx c.z) (Zd.below z)).mono ?_;rintro Z0 Zy ⟨⟨YM,rfl,ZZ⟩,O⟩;have Zq:=ZZ;obtain⟨YW,YY,Y2,YV,YX,Y1,YZ,Y0,rfl,_,_,_⟩:=ZZ;go_simp;have R:=au z O;have N:=c.below O;refine j _ _ (aA.of_below R) (λ _=>N) ?_;clear j k d c O z;have d:aA m (m+1) wr Zy:=aA.of_below R;have c:=N;refine sH ?_;refine bX (i:=17) (v:=?_) I ah ah ah (λ _ _ _ a=>a) aX (Or.inl ⟨a6,λ b f=>?_⟩) d (λ _=>c) ?_;rotate_left
      ·go_simp;first | done | rfl
      simp only[aT];obtain⟨⟨Zw,Zv,Zu,Zt,Zs,Zr⟩,⟨YU,YT,YS,YR,YQ,YP⟩,Yx⟩:=N;refine e7 18 I ah a6 (λ k j=>?_);go_simp;refine sU ?_;clear j k;refine e7 19 I ah a6 (λ k j=>?_);exact vI
     ·rw[I3 n l ZJ] at x ZU o;have Z2:=ab (OC n l A g);have ZM:U (gA (ai g).data.toList [32]= -1):=by rw[U,cE];exact qJ 32 g ZJ
      generalize iI n l g=ZK at *;obtain⟨Z1,v⟩:=ZK;simp only at x ZU Z2 o;refine zb ?_;intro C D Zz;clear H;go_wp2_with fail;refine(AU (ai g) 32 32 I _ (by rw[bs];omega)).mono ?_;rw[ZM.o];rintro Z0 Yu ⟨rfl,rfl⟩;have ZT:U True:=trivial;go_wp2_with fail;refine gJ (λ b:af=>aA m (m+1) wr b) (λ b=>iS b m (M l.s) (aa Z5 Z7 V) (M l.t) (aa Z4 Z6 W) (M l.a) (aa Y l.gg.length X)) 9 ah ?_;change de _ _ _ _ _ _ _ _ _ _ (dH wr);have z:=bI wr;refine zg ?_;intro d c;refine bX (i:=3) (v:=?_) I ah ah ah (λ _ _ _ a=>a) aX (Or.inl ⟨a6,λ b f=>?_⟩) d (λ _=>c) ?_;rotate_left
      ·have Y5:=ZT.o;go_simp;first | done | rfl
      simp only[aT];refine yA ?_;refine e7 5 I ah a6 (λ k j=>?_);go_simp;refine(Z2.o (ha (λ _=>False) m (m+1)) _ _ (Dx c.z) (Zd.below z)).mono ?_;rintro Z0 Zy ⟨⟨YM,rfl,ZZ⟩,O⟩;have Zq:=ZZ;obtain⟨YW,YY,Y2,YV,YX,Y1,YZ,Y0,rfl,_,_,_⟩:=ZZ;go_simp;have R:=au z O;have N:=c.below O;refine j _ _ (aA.of_below R) (λ _=>N) ?_;clear j k d c O z;have d:aA m (m+1) wr Zy:=aA.of_below R;have c:=N;refine bX (i:=6) (v:=?_) I ah ah ah (λ _ _ _ a=>a) aX (Or.inl ⟨a6,λ b f=>?_⟩) d (λ _=>c) ?_;rotate_left
      ·go_simp;first | done | rfl
      simp only[aT];refine qa ?_;obtain⟨⟨Zw,Zv,Zu,Zt,Zs,Zr⟩,⟨YU,YT,YS,YR,YQ,YP⟩,Yx⟩:=N;refine e7 9 I ah a6 (λ k j=>?_);go_simp;refine sU ?_;clear j k;refine m0 ?_;intro k j;exact vI
  ·exact xN
end Go.Proofs.YtkjnhlpccgjfhaaGreatDoor
