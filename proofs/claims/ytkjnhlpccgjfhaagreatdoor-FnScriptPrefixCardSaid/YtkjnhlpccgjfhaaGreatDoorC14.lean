/- A part of the proof: lemmas (my texts, shortened by a program of mine). -/
import Derived.Test.YtkjnhlpccgjfhaaGreatDoorC13
set_option linter.all false
set_option maxRecDepth 100000
set_option maxHeartbeats 4000000
namespace Go.Proofs.YtkjnhlpccgjfhaaGreatDoor
open Go.RowKit
open Go.Proofs.Tryz
open Bool renaming and_eq_true->b9,false->ak,true->ae
open Go renaming Calls->aY,Oper->bD,Value->ay,World->af,bodyPost_ret->aK,callFunc->b0,results->aJ,wpQuiet_nil->dn
open Go.Act renaming put->aT
open Go.BinOp renaming and->fY,andNot->hZ
open Go.Ending renaming returned->aV
open Go.IntKind renaming i64->cz
open Go.IntWalk renaming i64_in->bV
open Go.Obj renaming cells->al
open Go.Result renaming andThen_ok->ex
open Go.Sem renaming run->c9,run_bind->eC,run_pure->ey
open Go.Value renaming agg->ba,bool->aw,int->ed,slice->aa,tuple->aL
open Go.World renaming block_lt_of_cell?->fX,ownsRow_lit->fF
open Go.World.ownsRow renaming cells->iN
open Int renaming toNat_natCast->cI
open List renaming length_append->dm
open Nat renaming le_refl->bL,lt_of_lt_of_le->cm
open Option renaming isNone_iff_eq_none->eB,none->aj,some->Z
open Or renaming inl->bj,inr->aP
open _root_ renaming Array->bg,Bool->a8,Int->F,List->aU,Nat->J,absurd->bC,beq_iff_eq->cR,decide_eq_false->iP,if_neg->aF,if_pos->a7,rfl->I
variable {p q:Prop}
theorem Fz (o:aG) (b C:J) (x:J->F) (v:J->ac) (j:FuncId) (p:bg ay) (d:J->a8) (e:af) (u:kQ e o b x v)
  (P:∀(y:bg ay) (c:af),c9 prog (b0 j y) c=.ok (.enter j y) c)
  (t:∀(a:J) (c:af) (f:aG) (V l:J),a<b->ap e c->an c f V (v a)->aY prog j (#[am (x a) f V l]++p) c λ i z=>i=aV (aw (d a)) /\ ap c z):
  aY prog 354 #[aa o b C,.func (.func j) #[] p] e λ i c=>(∃w:F,i=aV (M w) /\ decide (0<=w)= !bq (λ a=> !d a) b) /\ ap e c:=by
 have B:=ab t;clear t;have O:=u.cap;go_enter func354,ntmps354;go_wp2;go_loopw [5,8] (λ _ n wr=>∃a:J,a<=b /\ n=M a /\ bq (λ a=> !d a) a=ae /\ ap e wr) (λ _ n _=>b-(intOf n).toNat)
 case atStart=>exact⟨0,E,I,I,Below.refl _ _⟩
 case round =>
  obtain⟨a,S,rfl,r,g⟩:=hrel;have k:=ab r;clear r;by_cases m:a<b
  ·obtain⟨L,f,V,l,rfl,N,K,Q,R,G⟩:=u.at g m;go_wp2_with fail;refine(B.o a wr f V l m g G).mono ?_;rintro i T ⟨rfl,D⟩;have q:=au g D;cases s:d a
   ·go_wp2;go_roundw
    case rel=>exact⟨a+1,E,by go_num,by show (bq (λ a=> !d a) a&& !d a)=ae;rw[k.o,s];rfl,q⟩
    case measure=>simp[intOf];omega
   ·have A:U (bq (λ a=> !d a) b=ak):=jn m (by simp[s]);go_wp2;go_ret;exact⟨⟨_,I,by rw[A.o];simp⟩,q⟩
  ·exact xU
theorem zJ (k:aG) (d u:J) (g:J->F) (e:J->ac) (c:FuncId) (l:bg ay) (f:J->a8) (A:af) (x:kQ A k d g e)
  (w:∀(p:bg ay) (a:af),c9 prog (b0 c p) a=.ok (.enter c p) a)
  (o:∀(b:J) (a:af) (i:aG) (j q:J),b<d->ap A a->an a i j (e b)->aY prog c (#[am (g b) i j q]++l) a λ m r=>m=aV (aw (f b)) /\ ap a r):
  aC 321 #[aa k d u,.func (.func c) #[] l] A (aw (!bq (λ b=> !f b) d)):=by
 have t:=ab o;clear o;go_enter func321,ntmps321;go_wp2_with fail;refine(Fz _ _ _ g e _ _ f _ x w t.o).mono ?_;rintro m z ⟨⟨y,rfl,n⟩,v⟩;have s:=ab n;clear n;go_wp2;go_ret;exact⟨ct (by rw[<- s.o]),v⟩
theorem Fm (j r:F) (b g:aG) (c t i k f:J) (d e:ac) (a:af) (n:an a b c d) (l: a.cell? (ad f 1)=Z (aa g i k)) (o:an a g i e):
  aC 353 #[am j b c t,br f] a (aw (dR e d)):=by
 have q:=ag (az a (al #[M j,aa b c t] 29)) l;go_enter func353,ntmps353;go_wp2_with fail;refine(Bd _ _ _ _ _ _ e d _ (o.below (az _ _)) (n.below (az _ _))).mono ?_;rintro p s ⟨rfl,m⟩;go_wp2;go_ret;exact⟨I,(dZ m).2.2⟩
theorem E5 (c:bg ay) (a:af):c9 prog (b0 353 c) a=.ok (.enter 353 c) a:=by
 have g:(Tryz.f353.name== "runtime.NumGoroutine")=ak:=ah;have b:Tryz.f353.body.isNone=ak:=ah;have d:¬Tryz.f353.name= "runtime.NumGoroutine" :=by simpa using g
 have e:¬Tryz.f353.body=aj:=by intro f;rw[f] at b;simp at b
 simp only[b0,eC,run_program,ex,func353,cR,eB,aF d,aF e,ey]
theorem CL (a b:ac):dR a b=decide (a=b):=by
 by_cases c:a=b
 ·subst c;rw[uj rfl λ e _=>rfl];simp
 ·cases d:dR a b
  ·simp[c]
  ·refine bC ?_ c;simp only[dR,b9,cR,cp] at d;exact kI _ _ d.1 d.2
theorem J7 (a:aU (ac)) (c:ac):(!bq (λ b=> !dR c (aO a b)) a.length)=j8 a c:=by
 unfold j8;congr 2;funext b;rw[CL];congr 1;exact decide_eq_decide.2 ⟨Eq.symm,Eq.symm⟩
theorem Ag (i:F) (u:aG) (y H:J) (c:ac) (d:af) (Zi:an d u y c) (Z5:ci i c=ae):
  aY prog 320 #[am i u y H] d λ f C=>(∃n,f=aV n /\ da C (d.heap.size+1) n (co i c).length (λ _=>i) (aO (co i c))) /\ ap d C:=by
 obtain⟨Za,A,_,_,Zm,x⟩:=ln Z5;obtain⟨a,rfl⟩:∃a:J,i=a:=⟨i.toNat,x.symm⟩;have ZY:co (a:F) c=gu (a:F) c (dq a) (dq a).length:=by unfold co;rw[a7 Z5,cI]
 rw[cI] at Za A;clear x;have P:U (∀b,b<(dq a).length->g5 (a:F).toNat (aO (dq a) b) /\ (dQ (a:F) c (aO (dq a) b)).size=(a:F) /\ (dQ (a:F) c (aO (dq a) b)).ok=ae):= λ b ZR=>by
  have w:g5 (a:F).toNat (aO (dq a) b):=by rw[cI];exact ul A (nH ZR)
  obtain⟨f,_,Zu,Zt,_⟩:=qG Z5 w;exact⟨w,Zt,Zu⟩
 have Z6:=(mj A (bL a)).1;have Z7:=(mj A (bL a)).2.1;change (dq a).length<=24 at Z6;change 1<=(dq a).length at Z7;rw[ZY];clear ZY;obtain⟨k,ZG⟩:∃k,U (dq a=k):=⟨_,I⟩;have Q:=G0 a;rw[ZG.o] at P Z6 Z7 Q ⊢;obtain⟨p,ZX⟩:∃p,k.length=p:=⟨_,I⟩;rw[ZX] at P Z6 Z7 ⊢;obtain⟨e,s⟩:∃e,U (d.alloc (al #[M (a:F),aa u y H] 29)=e):=⟨_,I⟩;have Z0:ap d e:=by rw[<- s.o];exact az _ _
 have Zl: e.cell? (ad d.heap.size 0)=Z (M (a:F)):=by rw[<- s.o];simp
 have Zk: e.cell? (ad d.heap.size 1)=Z (aa u y H):=by rw[<- s.o];simp
 have Ze:e.heap.size=d.heap.size+1:=by rw[<- s.o];simp
 have v:=da.lit e (λ _=>(a:F)) (aO []);have Zs:Below e.heap.size e (e.alloc (al #[] 29)):=az _ _;have ZM:(e.alloc (al #[] 29)).heap.size=e.heap.size+1:=ar;have Zg:=Zi.below Z0;go_enter func320,ntmps320;go_wp2_with fail;rw[s.o];refine(Q _ A).mono ?_;rintro f V ⟨⟨YN,rfl,N⟩,W⟩;clear Q;have ZZ:=au Zs W;replace v:=v.below W;rw[ZM] at N;have ZN:=W.size;rw[ZM] at ZN;rw[Ze] at v N ZN;obtain⟨Y0,Y3,Z8,YU,YT⟩:=N.form2 E;subst Z8;rw[ZX];go_wp2;go_loopw [3,13] (λ Zb Z1 wr=>∃(b:J) (n:ay),b<=p /\ Z1=M b /\ Zb=n /\ da wr (d.heap.size+1) n (gu (a:F) c k b).length (λ _=>(a:F)) (aO (gu (a:F) c k b)) /\ aA (d.heap.size+1) (d.heap.size+1+1) V wr /\ (∀o,n.ownBlock=Z o->o=d.heap.size+1 \/ V.heap.size<=o)) (λ _ Z1 _=>p-(intOf Z1).toNat)
 case atStart=>exact⟨0,_,E,I,I,v,aA.refl _ _ _,λ o f=>bj (dD f)⟩
 case round =>
  clear v;obtain⟨b,n,ZR,rfl,rfl,r,t,Z4⟩:=hrel;obtain⟨j,rfl⟩:∃g:af,g=wr:=⟨_,I⟩;have YP:=t.size;by_cases Zo:b<p
  ·obtain⟨l,D⟩:∃l,U (gu (a:F) c k b=l):=⟨_,I⟩;have ZP:=ua (a:F) c k b;have Z2:=ab (qw (a:F) c k b);rw[D.o] at r ZP;obtain⟨g,B⟩:∃g,l.length=g:=⟨_,I⟩;rw[B] at r ZP;obtain⟨ZE,ZC,Z8,Zr⟩:=r.form;subst Z8;obtain⟨Y5,Y7,YK,z,_,_,YV,YX,Zd⟩:=(N.span t aZ).at bA (k:=b) E;injection z with R ZA Zx
   injection R with R
   injection R with Zw Zv
   subst Zw;clear ZA Zx Zv;obtain⟨ZD,Zc,ZB,rfl,Zp⟩:=Zd.ints;obtain⟨w,x,ZO⟩:=P.o b Zo;have ZI:=ab w;clear w;have ZF:=ab x;clear x;have ZH:=ab ZO;clear ZO;have T:ap e j:=aA.below ZZ E t E;have Y2:=ag T Zl;have Y1:=ag T Zk;have Zf:=Zg.below T;go_wp2_with fail;refine(zI (a:F) u ZD y H Zc ZB c _ _ Zf Zp Zm ZI.o).mono ?_;rintro f q ⟨⟨YO,rfl,Z3⟩,Y⟩;rw[ZF.o,ZH.o];obtain⟨G,O,K,rfl,ZT⟩:=Z3.ints;obtain⟨m,L⟩:∃m,U ((dQ (a:F) c (aO k b)).parts=m):=⟨_,I⟩;rw[L.o] at Z3 ZT;have YR:=Y.size;have Z9:Below q.heap.size q (q.alloc (al #[M (a:F),aa G O K] 29)):=az _ _;have ZK:(q.alloc (al #[M (a:F),aa G O K] 29)).cell? (ad q.heap.size 1)=Z (aa G O K):=ar;go_wp2_with fail;refine(zJ ZE g ZC _ _ _ #[br q.heap.size] (λ ZL=>dR m (aO l ZL)) _ ((Zr.below Y).below Z9) E5 (λ ZL C Y9 Y4 Y8 YS ZV Zq=>?_)).mono ?_
   ·exact Fm _ (a:F) _ _ _ _ _ _ _ _ _ C Zq (ag ZV ZK) ((ZT.below Z9).below ZV)
   rintro f YM ⟨rfl,ZU⟩;rw[<- B,J7];obtain⟨YZ,YY,S⟩:=dZ ZU;have X:=au Y S;have YQ:=S.size;clear ZU Z9 ZK;cases ZW:j8 l m
   ·have ZS:U (gu (a:F) c k (b+1)=l++[m]):=by rw[U,Z2.o,D.o,L.o,ZW];rfl
    go_wp2_with (at_builtin;refine zM I _ _ I j (d.heap.size+1) _ (a:F) l g B a6 r (X.alloc E _) _ _ (aa G O K) m a6 ar ar ((Z3.below S).below (az _ _)) E E ?_;intro Zh Zj YL Y6 Zz YW Zy);exact vM
   ·exact xM
  ·have ZQ:b=p:=E;have ZJ:=ab ZQ;clear ZQ;go_wp2;go_ret;exact⟨⟨_,I,by rw[<- ZJ.o];exact r⟩,(Z0.trans ((aA.below ZZ E t E).mono E))⟩
theorem z9 (a:F) (j:aG) (k m:J) (d:ac) (e:af) (q:an e j k d):
  aY prog 314 #[am a j k m] e λ f i=>(∃v,f=aV v /\ da i e.heap.size v (co a d).length (λ _=>a) (aO (co a d))) /\ ap e i:=by
 cases g:ci a d
 ·have l:U (co a d=[]):=by rw[U];unfold co;rw[g];rfl
  go_enter func314,ntmps314;go_wp2_with fail;refine pU ?_;rw[g];rintro f s ⟨rfl,c⟩;obtain⟨n,o,b⟩:=dZ c;clear c;go_wp2;go_ret;exact⟨⟨_,I,by rw[l.o];exact da.nil _ _ _ _⟩,b⟩
 ·go_enter func314,ntmps314;go_wp2_with fail;refine pU ?_;rw[g];rintro f s ⟨rfl,c⟩;obtain⟨n,o,b⟩:=dZ c;have t:=b.size;clear c;go_wp2_with fail;refine(Ag _ _ _ _ _ _ (q.below b) g).mono ?_;rintro f u ⟨⟨v,rfl,r⟩,p⟩;go_wp2;go_ret;exact⟨⟨_,I,r.mono E⟩,au b p⟩
theorem JD (a:aU (ac)) (b:ac) (d:J):(!bq (λ c=> !dR (aO a c) b) (d+1))=(!bq (λ c=> !dR (aO a c) b) d||dR (aO a d) b):=by
 show (!(bq (λ c=> !dR (aO a c) b) d&& !dR (aO a d) b))=_;cases bq (λ c=> !dR (aO a c) b) d<;>cases dR (aO a d) b<;>rfl
theorem JE (a:aU (ac)) (c:ac):(!bq (λ b=> !dR (aO a b) c) a.length)=j8 a c:=by
 unfold j8;congr 2;funext b;rw[CL]
theorem Ah (x:F) (v:aG) (w y:J) (c:ac) (d:af) (Y1:an d v w c):
  aY prog 86 #[am x v w y] d λ f n=>(∃s,f=aV s /\ da n d.heap.size s (co x c).length (λ _=>x) (aO (co x c))) /\ ap d n:=by
 cases T:ci x c
 ·have R:U (co x c=[]):=by rw[U];unfold co;rw[T];rfl
  obtain⟨i,u⟩:∃i,U (d.alloc (al #[M x,aa v w y] 29)=i):=⟨_,I⟩;have ZY:ap d i:=by rw[<- u.o];exact az _ _
  have Zo:i.heap.size=d.heap.size+1:=by rw[<- u.o];simp
  have H:=da.lit i (λ _=>x) (aO []);rw[Zo] at H;have ZG:=ZY.alloc (o:=al #[] 29) E;have Yr:=Y1.below ZG;have Zp:=ZG.size;have Zu:(i.alloc (al #[] 29)).cell? (ad d.heap.size 0)=Z (M x):=ag (az i _) (by rw[<- u.o];simp);have Zt:(i.alloc (al #[] 29)).cell? (ad d.heap.size 1)=Z (aa v w y):=ag (az i _) (by rw[<- u.o];simp);go_enter func86,ntmps86;go_wp2_with fail;rw[u.o];refine(iA _ _ _ _ _ _ Yr).mono ?_;rw[T];rintro f Yk ⟨rfl,A⟩;have YO:=ab (H.below A);have S:=ab (au ZG A);clear A;go_wp2;go_ret;exact⟨⟨_,I,by rw[R.o];exact YO.o.mono E⟩,S.o⟩
 ·obtain⟨Yn,Z5,_,Ys,Yt,Z7⟩:=ln T;obtain⟨a,rfl⟩:∃a:J,x=a:=⟨x.toNat,Z7.symm⟩;have Zf:co (a:F) c=gu (a:F) c (dq a) (dq a).length:=by unfold co;rw[a7 T,cI]
  rw[cI] at Yn Z5;clear Z7;have R:U (∀b,b<(dq a).length->g5 (a:F).toNat (aO (dq a) b) /\ (dQ (a:F) c (aO (dq a) b)).size=(a:F) /\ (dQ (a:F) c (aO (dq a) b)).ok=ae /\ (dQ (a:F) c (aO (dq a) b)).parts.length=c.length):= λ b Y8=>by
   have Z8:g5 (a:F).toNat (aO (dq a) b):=by rw[cI];exact ul Z5 (nH Y8)
   obtain⟨f,_,ZL,ZK,ZJ,_⟩:=qG T Z8;exact⟨Z8,ZK,ZL,ZJ⟩
  have ZA:=(mj Z5 (bL a)).1;have ZB:=(mj Z5 (bL a)).2.1;change (dq a).length<=24 at ZA;change 1<=(dq a).length at ZB;rw[Zf];clear Zf;obtain⟨k,YJ⟩:∃k,U (dq a=k):=⟨_,I⟩;have ZQ:=GK a;rw[YJ.o] at R ZA ZB ZQ ⊢;obtain⟨N,Ze⟩:∃N,k.length=N:=⟨_,I⟩;rw[Ze] at R ZA ZB ⊢;obtain⟨i,u⟩:∃i,U (d.alloc (al #[M (a:F),aa v w y] 29)=i):=⟨_,I⟩;have ZY:ap d i:=by rw[<- u.o];exact az _ _
  have Zu: i.cell? (ad d.heap.size 0)=Z (M (a:F)):=by rw[<- u.o];simp
  have Zt: i.cell? (ad d.heap.size 1)=Z (aa v w y):=by rw[<- u.o];simp
  have Zo:i.heap.size=d.heap.size+1:=by rw[<- u.o];simp
  have H:=da.lit i (λ _=>(a:F)) (aO []);have S:Below i.heap.size i (i.alloc (al #[] 29)):=az _ _;have YZ:(i.alloc (al #[] 29)).heap.size=i.heap.size+1:=ar;have Y4:=ag S Zu;have Y3:=ag S Zt;have Y0:=Y1.below ZY;go_enter func86,ntmps86;go_wp2_with fail;rw[u.o];refine(iA _ _ _ _ _ _ (Y0.below S)).mono ?_;rw[T];rintro f Yk ⟨rfl,A⟩;have YT:=au S A;have YY:=ag A Y4;have YX:=ag A Y3;have Zp:=A.size;rw[YZ] at Zp;go_wp2_with fail;refine(ZQ _ Z5).mono ?_;rintro f V ⟨⟨XN,rfl,Y2⟩,ZE⟩;clear ZQ Y4 Y3 YY YX;have Zg:=au YT ZE;replace H:=(H.below A).below ZE;have XT:=ZE.size;rw[Zo] at H Zp;clear YZ;obtain⟨Z0,YF,ZC,X0,XZ⟩:=Y2.form2 E;subst ZC;rw[Ze];go_wp2;go_loopw [3,5] (λ Yo e wr=>∃(b:J) (s:ay),b<=N /\ e=M b /\ Yo=s /\ da wr (d.heap.size+1) s (gu (a:F) c k b).length (λ _=>(a:F)) (aO (gu (a:F) c k b)) /\ aA (d.heap.size+1) (d.heap.size+1+1) V wr /\ (∀o,s.ownBlock=Z o->o=d.heap.size+1 \/ V.heap.size<=o)) (λ _ e _=>N-(intOf e).toNat)
  case atStart=>exact⟨0,_,E,I,I,H,aA.refl _ _ _,λ o f=>bj (dD f)⟩
  case round =>
   clear H;obtain⟨b,s,Y8,rfl,rfl,r,t,Z4⟩:=hrel;obtain⟨j,rfl⟩:∃g:af,g=wr:=⟨_,I⟩;have XR:=t.size;by_cases Zv:b<N
   ·obtain⟨l,D⟩:∃l,U (gu (a:F) c k b=l):=⟨_,I⟩;have Y7:=ua (a:F) c k b;have Z2:=ab (qw (a:F) c k b);rw[D.o] at r Y7;obtain⟨g,B⟩:∃g,l.length=g:=⟨_,I⟩;rw[B] at r Y7;obtain⟨X7,X6,ZC,Yx⟩:=r.form;subst ZC;obtain⟨Ya,Yb,YU,z,_,_,X1,Zd,Yp⟩:=(Y2.span t E).at bA (k:=b) E;injection z with Z9 ZN ZM
    injection Z9 with Z9
    injection Z9 with YC YB
    subst YC;clear ZN ZM YB;obtain⟨Y,Z6,Z1,rfl,Yv⟩:=Yp.ints;obtain⟨Z8,Z7,Y5,Zw⟩:=R.o b Zv;have YN:U (∀q,q<l.length->(aO l q).length=c.length):= λ q Za=>by
     have:=nH Za;rw[<- D.o] at this;obtain⟨e,XY,f⟩:=Bh.1 this;rw[<- D.o,<- f];exact(R.o e E).2.2.2
    have YL:=ab Z8;clear Z8;have YH:=ab Z7;clear Z7;have YK:=ab Y5;clear Y5;have ZF:ap i j:=aA.below Zg E t E;have YA:=ag ZF Zu;have Yz:=ag ZF Zt;have Yq:=Y0.below ZF;obtain⟨m,L⟩:∃m,U ((dQ (a:F) c (aO k b)).parts=m):=⟨_,I⟩;rw[L.o] at Zw;have YM:=ab Zw;clear Zw;have Zm:U (∀n:af,an n v w c->an n Y Z6 (aO k b)->aY prog 185 #[am (a:F) v w y,aa Y Z6 Z1] n λ f ZR=>(∃s,f=aV (aL #[ba #[M (a:F),s],aw ae]) /\ av ZR n.heap.size s m) /\ ap n ZR):= λ n Ym Yl =>
     (An (a:F) v Y w y Z6 Z1 c _ n Ym Yl Yt Ys YL.o).mono λ f ZR ⟨⟨s,ZL,ZK⟩,ZJ⟩=>⟨⟨s,by rw[ZL,YH.o,YK.o],by rw[<- L.o];exact ZK⟩,ZJ⟩
    have YE:¬j.heap.size=d.heap.size:=E;have YD:¬j.heap.size=Z0:=E;go_wp2_with fail;refine jT (ι:=aG×J×J×J) (λ YG e=>(((((((((((YG.put (Z 25) (am (a:F) v w y)).put (Z 26) (aq Z0 N YF)).put (Z 27) (M (b:F))).put (Z 28) (.pointer (Z (ad Z0 b)))).put (Z 29) (aa Y Z6 Z1)).put (Z 30) (aL #[am (a:F) e.1 e.2.1 e.2.2.1,aw ae])).put (Z 24) (aL #[am (a:F) e.1 e.2.1 e.2.2.1,aw ae])).put (Z 31) (am (a:F) e.1 e.2.1 e.2.2.1)).put (Z 32) (aw ae)).put (Z 6) (br e.2.2.2)).put (Z 7) (aw ae))) (λ e n=>ap j n /\ j.heap.size<=e.2.2.2 /\ n.cell? (ad e.2.2.2 0)=Z (M (a:F)) /\ n.cell? (ad e.2.2.2 1)=Z (aa e.1 e.2.1 e.2.2.1) /\ av n j.heap.size (aa e.1 e.2.1 e.2.2.1) m) ?_ ?_
    ·go_region_held3 (λ n=>n.cell? (ad d.heap.size 0)=Z (M (a:F)) /\ n.cell? (ad d.heap.size 1)=Z (aa v w y) /\ n.cell? (ad Z0 b)=Z (aa Y Z6 Z1)) (first | (refine⟨by assumption,by assumption,by assumption⟩;done) | (refine⟨by simp[*],by simp[*],by simp[*]⟩;done) | go_keep) (first | (go_at_call 185;((with_reducible refine(Zm.o _ ?_ ?_).mono ?_));exact Yq.below aD;exact Yv.below aD;rintro f YV ⟨⟨XM,rfl,Zr⟩,O⟩;obtain⟨Zk,YW,Zi,rfl,XX⟩:=Zr.ints;have ZX:ap j YV:=Below.trans aD (O.mono (by first | omega | (simp<;>omega)));have XW:=ZX.size;(first | (have Zv:=fX _ _ K;(dsimp only at Zv);replace ZV:=aB O K ZV;replace ZU:=aB O Q ZU;replace K:=ag O K;replace Q:=ag O Q) | (((with_reducible have ZH:=j7 O));obtain⟨K,Q,ZV,ZU,_⟩:=ZH;(try simp only[I7] at K Q ZV ZU)) | (((with_reducible have ZH:=j7 (e8 O)));obtain⟨K,Q,ZV,ZU,_⟩:=ZH) | skip);have YY:=ag ZX YA;have YX:=ag ZX Yz;have XQ:=ag ZX Zd) | fail);all_goals first | (refine⟨⟨Zk,YW,Zi,j.heap.size⟩,?_,?_⟩;(focus (simp[aT];done));dsimp only) | (refine⟨⟨Zk,YW,Zi,YV.heap.size⟩,?_,?_⟩;(focus (simp[aT];done));dsimp only)
     all_goals
      refine⟨?_,?_,?_,?_,?_⟩
      ·exact aD
      ·first | omega | exact bL _
      ·first | (simp;done) | (simp[go_sem,K,Q];done)
      ·first | (simp;done) | (simp[go_sem,K,Q];done)
      ·first | exact(Zr.below (az _ _)).mono (by first | omega | (simp<;>omega)) | exact((Zr.setBelow (by first | (simp;omega) | (simp;done) | (dsimp only;omega)) _).setBelow (by first | (simp;omega) | (simp;done) | (dsimp only;omega)) _).mono (by first | omega | (simp<;>omega))
    rintro⟨ZP,ZT,ZO,Z3⟩ W ⟨ZD,Yy,ZZ,ZI,Zs⟩;change ap j W at ZD;change j.heap.size<=Z3 at Yy;change W.cell? (ad Z3 0)=Z (M (a:F)) at ZZ;change W.cell? (ad Z3 1)=Z (aa ZP ZT ZO) at ZI;change av W j.heap.size (aa ZP ZT ZO) m at Zs;have X4:Z3<W.heap.size:=b6 ZZ;clear Zm YE YD Zd;obtain⟨Ye,X8,Yc,z,Zc⟩:=Zs.ints;injection z with Z9 ZN ZM
    subst Z9 ZN ZM;have Yw:=Yx.below ZD;go_wp2;go_loopw [8,9] (λ YU e wr=>∃q:J,q<=g /\ e=M q /\ YU=aw (!bq (λ e=> !dR (aO l e) m) q) /\ ap W wr) (λ _ e _=>g-(intOf e).toNat)
    case atStart=>exact⟨0,E,I,I,Below.refl _ _⟩
    case round =>
     obtain⟨q,Za,rfl,rfl,G⟩:=hrel;have XP:=ag G ZZ;have XO:=ag G ZI;by_cases Yu:q<g
     ·obtain⟨X5,Yf,YS,Yd,z,X3,X9,XV,XU,Zx⟩:=Yw.at G Yu;subst z;obtain rfl:YS=ZT:=by rw[<- Zx.len,<- Zc.len,YM.o];exact YN.o q E
      have Zb:=Zc.below G;have YP:=ab (JD l m q);cases P:(!bq (λ e=> !dR (aO l e) m) q)
      ·have Zl:=ab P;clear P;go_wp2_with fail;refine cC ?_;repeat (first | go_big_quiet_step ((go_at_call 178;(exact aQ (tM (a:F) (a:F) _ _ _ _ _ _ _ _ (Zx.below (aM _ _)) (Zb.below (aM _ _)))))) | quiet_step ((go_at_call 178;(exact aQ (tM (a:F) (a:F) _ _ _ _ _ _ _ _ (Zx.below (aM _ _)) (Zb.below (aM _ _)))))))
       exact yk
      ·have Zl:=ab P;clear P;go_wp2_with fail;refine cC ?_;repeat (first | go_big_quiet_step ((fail)) | quiet_step ((fail)))
       exact yk
     ·have Y9:q=g:=E;have YR:=ab Y9;have Zq:=JE l m;rw[B,<- YR.o] at Zq;have YI:=ab Zq;clear Y9 Zq;rw[YI.o];have X:=au ZD G;have XS:=G.size;clear ZZ ZI;cases ZW:j8 l m
      ·have ZS:U (gu (a:F) c k (b+1)=l++[m]):=by rw[U,Z2.o,D.o,L.o,ZW];rfl
       go_wp2_with (at_builtin;refine zM I _ _ I j (d.heap.size+1) _ (a:F) l g B a6 r (X.alloc E _) _ _ (aa ZP ZT ZO) m a6 ar ar ((Zs.below G).below (az _ _)) E E ?_;intro Zh Zj XL Y6 Zz X2 Zy);exact vM
      ·exact xM
   ·have P:b=N:=E;have YQ:=ab P;clear P;go_wp2;go_ret;exact⟨⟨_,I,by rw[<- YQ.o];exact r.mono E⟩,(ZY.trans ((aA.below Zg E t E).mono E))⟩
theorem G5 (f:F) (d:J) (Z6:aG) (T n:J) (a:ac) (e:af) (z:an e Z6 T a) (R:aI f a=ae) (ZX:d<a.length) (Z3:1<=aW a-O a 0):
  aC 236 #[am f Z6 T n,M d] e (aL #[ba #[M (bv (cP a d a.length) (12*(aW a-O a 0))).num,M (bv (cP a d a.length) (12*(aW a-O a 0))).den],aw (bv (cP a d a.length) (12*(aW a-O a 0))).ok]):=by
 obtain⟨S,ZV,B,K,ZS,ZR,_⟩:=bt R;have ZP:=b8 S;have Z4:bi 0 ((aH f:F)-1) d=ae:=bM.2 E;obtain rfl:T=a.length:=z.len.symm;have Z5:=kt a d a.length B K a.length aZ;have ZU:=K 0 E;obtain⟨c,N⟩:∃c,a.length=c:=⟨_,I⟩;rw[N] at z B ZX Z5 ⊢;have Z7:U (∀r,r<c->0<=O a r /\ O a r<=1000000):=by show ∀r,r<c->_;rw[<- N];exact K
 have ZY:0<c:=E;obtain⟨u,C⟩:∃u,cP a d c=u:=⟨_,I⟩;obtain⟨g,D⟩:∃g,aW a=g:=⟨_,I⟩;obtain⟨l,L⟩:∃l,O a 0=l:=⟨_,I⟩;rw[C] at Z5;rw[C,D,L];rw[D] at ZS ZR Z3;rw[L] at ZU Z3;have ZL:IntKind.i64.wrap (g-l)=g-l:=bV _ E;have ZK:IntKind.i64.wrap (12*(g-l))=12*(g-l):=bV _ E;have ZM:(g==l)=ak:=by simp;omega
 obtain⟨i,k,rfl,ZO,ZN,P⟩:=z.at bA ZY;rw[Nat.add_zero,L] at P;have X:U (∀b,an b (Z ⟨i,k,aj⟩) c a->aC 142 #[am f (Z ⟨i,k,aj⟩) c n] b (aw ae)):= λ b x=>by rw[<- R];exact cn _ _ _ _ a _ x
 have Y:U (∀b,an b (Z ⟨i,k,aj⟩) c a->aC 226 #[am f (Z ⟨i,k,aj⟩) c n,M d] b (M u)):= λ b x=>by rw[<- C];exact tE _ _ _ _ d a b x B E Z7.o
 have A:U (∀b,an b (Z ⟨i,k,aj⟩) c a->aC 157 #[am f (Z ⟨i,k,aj⟩) c n] b (M g)):= λ b x=>by rw[<- D];exact gi _ _ _ _ a b x (λ r ZW=>by have:=Z7.o r ZW;omega) B
 have Z9:U (∀b,aY prog 140 #[M f,M d] b λ Z1 Z2=>Z1=aV (aw ae) /\ b=Z2):= λ b=>by rw[<- Z4];exact fh f d b S
 obtain⟨s,Q⟩:∃ZT,bv u (12*(g-l))=ZT:=⟨_,I⟩;rw[Q];have Z8:U (∀b,aC 156 #[M u,M (12*(g-l))] b (bz s.num s.den s.ok)):= λ b=>by rw[<- Q];exact mc _ _ b E E E E E
 have y:Below e.heap.size e ((e.alloc (al #[M f,aa (Z ⟨i,k,aj⟩) c n] 29)).alloc (al #[M 0,M 0] 55)):=aD;have q:=z.below y;have G:=ag y P;clear R S ZV K C D L N Q Z4 P;go_enter func236,ntmps236;go_wp2_with fail;obtain⟨m,j⟩:∃m,(e.alloc (al #[M f,aa (Z ⟨i,k,aj⟩) c n] 29)).alloc (al #[M 0,M 0] 55)=m:=⟨_,I⟩;rw[j];rw[j] at y q G;have V: m.cell? (ad e.heap.size 0)=Z (M f):=by rw[<- j];simp
 have W: m.cell? (ad e.heap.size 1)=Z (aa (Z ⟨i,k,aj⟩) c n):=by rw[<- j];simp
 have o: m.cell? (ad (e.heap.size+1) 0)=Z (M 0):=by rw[<- j];simp
 have p: m.cell? (ad (e.heap.size+1) 1)=Z (M 0):=by rw[<- j];simp
 have v: m.frozen? (ad (e.heap.size+1) 0)=ak:=by rw[<- j];simp
 have w: m.frozen? (ad (e.heap.size+1) 1)=ak:=by rw[<- j];simp
 clear j z;refine gj ah ah ?_;repeat (first | go_big_quiet_step ((first | (go_at_call 142;(with_reducible exact aQ (X.o _ (q.below (aM _ _))))) | (go_at_call 140;(with_reducible exact ej (Z9.o _))) | (go_at_call 157;(with_reducible exact aQ (A.o _ (q.below (aM _ _))))))) | quiet_step ((first | (go_at_call 142;(with_reducible exact aQ (X.o _ (q.below (aM _ _))))) | (go_at_call 140;(with_reducible exact ej (Z9.o _))) | (go_at_call 157;(with_reducible exact aQ (A.o _ (q.below (aM _ _))))))))
 refine dn ?_;refine dg ?_;intro ZJ ZH;have H:=q.below ZH;replace v:=aB ZH o v;replace w:=aB ZH p w;replace o:=ag ZH o;replace p:=ag ZH p;replace V:=ag ZH V;replace W:=ag ZH W;replace G:=ag ZH G;have ZZ:=au y ZH;clear ZH q y;go_wp2_with fail;refine ei 14 ah ah (λ _ _ _ _ _ Z0=>Z0) ?_;simp only[List.take_succ_cons,List.take_zero,List.drop_succ_cons,List.drop_zero];repeat (first | go_big_quiet_step ((first | (go_at_call 226;(with_reducible exact aQ (Y.o _ (H.below (aM _ _))))) | (go_at_call 157;(with_reducible exact aQ (A.o _ (H.below (aM _ _))))) | (go_at_call 156;(with_reducible exact aQ (Z8.o _))))) | quiet_step ((first | (go_at_call 226;(with_reducible exact aQ (Y.o _ (H.below (aM _ _))))) | (go_at_call 157;(with_reducible exact aQ (A.o _ (H.below (aM _ _))))) | (go_at_call 156;(with_reducible exact aQ (Z8.o _))))))
 refine dn ?_;refine dg ?_;intro ZI t;replace v:=aB t o v;replace w:=aB t p w;replace o:=ag t o;replace p:=ag t p;have ZQ:=au ZZ t;clear t V W G;go_wp2;refine aK (v:=bz s.num s.den s.ok) (by simp[aJ,results236,go_sem,o,p,v,w]) I ⟨?_,?_⟩
 ·rfl
 ·exact aD
theorem G6 (g:F) (d:J) (T:aG) (N p:J) (a:ac) (e:af) (v:an e T N a) (u:aI g a=ae) (Z3:d<a.length):
  aC 234 #[am g T N p,M d] e (aL #[ba #[M (bv (a9 (bm (cy d)) a a.length-O a 0) (aW a)).num,M (bv (a9 (bm (cy d)) a a.length-O a 0) (aW a)).den],aw (bv (a9 (bm (cy d)) a a.length-O a 0) (aW a)).ok]):=by
 obtain⟨X,Z1,B,L,ZW,ZV,_⟩:=bt u;have ZS:=b8 X;have W:bi 0 ((aH g:F)-1) d=ae:=bM.2 E;obtain rfl:N=a.length:=v.len.symm;have V:=lv (cy d) u;have Z0:=L 0 E;obtain⟨c,D⟩:∃c,a.length=c:=⟨_,I⟩;rw[D] at v B Z3 V ⊢;have S:U (∀i,i<c->0<=O a i /\ O a i<=1000000):=by show ∀i,i<c->_;rw[<- D];exact L
 have Z4:0<c:=E;obtain⟨ZO,s⟩:∃ZO,a9 (bm (cy d)) a c=ZO:=⟨_,I⟩;obtain⟨o,t⟩:∃o,aW a=o:=⟨_,I⟩;obtain⟨n,x⟩:∃n,O a 0=n:=⟨_,I⟩;rw[s] at V;rw[s,t,x];rw[t] at ZW ZV;rw[x] at Z0;have ZQ:IntKind.i64.wrap (ZO-n)=ZO-n:=bV _ E;obtain⟨j,m,rfl,f,ZR,G⟩:=v.at bA Z4;rw[Nat.add_zero,x] at G;have P:U (∀b,an b (Z ⟨j,m,aj⟩) c a->aC 252 #[am g (Z ⟨j,m,aj⟩) c p,M d] b (M ZO)):= λ b A=>by rw[<- s];exact tr _ d _ _ _ a b A E B S.o
 have Q:U (∀b,an b (Z ⟨j,m,aj⟩) c a->aC 157 #[am g (Z ⟨j,m,aj⟩) c p] b (M o)):= λ b A=>by rw[<- t];exact gi _ _ _ _ a b A (λ i Z2=>by have:=S.o i Z2;omega) B
 obtain⟨k,K⟩:∃ZX,bv (ZO-n) o=ZX:=⟨_,I⟩;rw[K];have R:U (∀b,aC 156 #[M (ZO-n),M o] b (bz k.num k.den k.ok)):= λ b=>by rw[<- K];exact mc _ _ b E E E E E
 have C:Below e.heap.size e ((e.alloc (al #[M g,aa (Z ⟨j,m,aj⟩) c p] 29)).alloc (al #[M 0,M 0] 55)):=aD;have Y:=v.below C;have H:=ag C G;have Z8:=ab u;have Z9:=ab W;clear Z1 L s t x D K W G u;go_enter func234,ntmps234;go_wp2_with fail;refine(cn _ _ _ _ a _ Y).mono ?_;rw[Z8.o];rintro Z7 ZU ⟨rfl,f⟩;have ZZ:=aS f e.heap.size 0 (M g);have ZY:=aS f e.heap.size 1 (aa (Z ⟨j,m,aj⟩) c p);obtain⟨q,r,y,z⟩:=cj (e.heap.size+1) f ar;have w:=Y.below f;replace H:=ag f H;have Z5:ap e ZU:=dz f;clear f C;go_wp2_with fail;refine(fh g d _ X).mono ?_;rw[Z9.o];rintro Z7 b ⟨rfl,rfl⟩;go_wp2_with fail;refine ei 13 ah ah (λ _ _ _ _ _ Z6=>Z6) ?_;simp only[List.take_succ_cons,List.take_zero,List.drop_succ_cons,List.drop_zero];repeat (first | go_big_quiet_step ((first | (go_at_call 252;(with_reducible exact aQ (P.o _ (w.below (aM _ _))))) | (go_at_call 157;(with_reducible exact aQ (Q.o _ (w.below (aM _ _))))) | (go_at_call 156;(with_reducible exact aQ (R.o _))))) | quiet_step ((first | (go_at_call 252;(with_reducible exact aQ (P.o _ (w.below (aM _ _))))) | (go_at_call 157;(with_reducible exact aQ (Q.o _ (w.below (aM _ _))))) | (go_at_call 156;(with_reducible exact aQ (R.o _))))))
 refine dn ?_;refine dg ?_;intro ZP l;replace y:=aB l q y;replace z:=aB l r z;replace q:=ag l q;replace r:=ag l r;have ZT:=au Z5 l;clear l ZZ ZY H;go_wp2;refine aK (v:=bz k.num k.den k.ok) (by simp[aJ,results234,go_sem,q,r,y,z]) I ⟨?_,?_⟩
 ·rfl
 ·exact aD
def ir (b:ac) (a:aU (ac)) (d:J):a8:=bq (λ c=> !decide (eg b (aO a d)<eg b (aO a c))) a.length
def lG (a b:aU (ac)) (c:J):a8:= !bq (λ d=> !ir (aO a d) b c) a.length
def fQ (c d:aU (ac)) (e:J):ac:=bx (λ a b=>if lG c d a then b++[(a:F)] else b) [] e
def gP (b:F) (c:ac) (a:aU (ac)):ac:=if ce b c a then fQ (co b c) a a.length else []
theorem nz (b c:aU (ac)) (a:J):fQ b c (a+1)=if lG b c a then fQ b c a++[(a:F)] else fQ b c a:=rfl
theorem tW (b c:aU (ac)) (a:J):(fQ b c a).length<=a:=by
 induction a with
 | zero=>exact bL _
 | succ a d =>
  rw[nz];split
  ·simp;omega
  ·omega
theorem Gn {a:F} {b:ac} {f:aU (ac)} (d:ce a b f=ae):ci a b=ae /\ ∀c,c<(co a b).length->aI a (aO (co a b) c)=ae /\ O (aO (co a b) c) 0=0:=by
 have e:ci a b=ae:=by unfold ce at d;rw[b9] at d;exact d.1
 refine⟨e,λ c i=>?_⟩;obtain⟨_,l,_,k,g⟩:=Ix i;obtain⟨_,_,_,h,j,_⟩:=ln (GL e k).2;rw[g];exact⟨j,h⟩
theorem JF (q u:J) (K:F) (j m n:aG) (d l c r p:J) (a e f:ac) (i:af) (o:an i j d a) (x:an i m c e) (y:an i n c f) (g:fu K d c a e) (k:fu K d c a f)
  (D: i.cell? (ad q 0)=Z (M K)) (E: i.cell? (ad q 1)=Z (aa j d l)) (G: i.cell? (ad u 0)=Z (aa n c p)):
  aC 323 #[aa m c r,br q,br u] i (aw (decide (eg a f<eg a e))):=by
 have z:c<=29:=by have:=g.m4;omega
 have v:U (∀b,an b j d a->an b m c e->aC 282 #[am K j d l,aa m c r] b (M (eg a e))):= λ b s t=>by
  have:=np K _ _ _ l _ r a e b s t g.n16 z g.xb g.gb;rw[g.lo] at this;unfold eg;rw[g.xlen];exact this
 have w:U (∀b,an b j d a->an b n c f->aC 282 #[am K j d l,aa n c p] b (M (eg a f))):= λ b s t=>by
  have:=np K _ _ _ l _ p a f b s t k.n16 z k.xb k.gb;rw[k.lo] at this;unfold eg;rw[k.xlen];exact this
 clear g k;generalize eg a e=B at *;generalize eg a f=C at *;go_enter func323,ntmps323;go_wp2;refine gj ah ah ?_;repeat (first | go_big_quiet_step ((first | (go_at_call 282;(with_reducible exact aQ (v.o _ (o.below (aM _ _)) (x.below (aM _ _))))) | (go_at_call 282;(with_reducible exact aQ (w.o _ (o.below (aM _ _)) (y.below (aM _ _))))))) | quiet_step ((first | (go_at_call 282;(with_reducible exact aQ (v.o _ (o.below (aM _ _)) (x.below (aM _ _))))) | (go_at_call 282;(with_reducible exact aQ (w.o _ (o.below (aM _ _)) (y.below (aM _ _))))))))
 refine dn ?_;refine dg ?_;intro H A;go_wp2;go_ret;exact⟨I,A⟩
theorem IA (c:bg ay) (a:af):c9 prog (b0 323 c) a=.ok (.enter 323 c) a:=by
 have g:(Tryz.f323.name== "runtime.NumGoroutine")=ak:=ah;have b:Tryz.f323.body.isNone=ak:=ah;have d:¬Tryz.f323.name= "runtime.NumGoroutine" :=by simpa using g
 have e:¬Tryz.f323.body=aj:=by intro f;rw[f] at b;simp at b
 simp only[b0,eC,run_program,ex,func323,cR,eB,aF d,aF e,ey]
theorem G7 (z m d:J) (f:F) (i C:aG) (k p ZS D:J) (c:ac) (b:aU (ac)) (a:af) (w:an a i k c) (x:dj a C ZS b) (H:d<ZS) (E:aG) (y V:J) (u:an a E y (aO b d))
  (K:aI f c=ae) (G:O c 0=0) (r:∀N,N<ZS->b7 f (aO b N)=ae)
  (Z6: a.cell? (ad z 0)=Z (aa C ZS D)) (Z4: a.cell? (ad m 0)=Z (aa E y V)):
  aC 322 #[am f i k p,br z,br m] a (aw (ir c b d)):=by
 have Z3:=x.len;obtain⟨ZY,A⟩:=x.vals;have Z7:=x.cap;have e:=az a (al #[M f,aa i k p] 29);have Z5:=ag e Z6;have L:=ag e Z4;have S:U ((!bq (λ s=> !decide (eg c (aO b d)<eg c (aO b s))) ZS)= !ir c b d):=by rw[U];unfold ir;rw[Z3]
 obtain⟨o,n⟩:∃o,U (a.alloc (al #[M f,aa i k p] 29)=o):=⟨_,I⟩;have Z0: o.cell? (ad a.heap.size 0)=Z (M f):=by rw[<- n.o];simp
 have ZZ: o.cell? (ad a.heap.size 1)=Z (aa i k p):=by rw[<- n.o];simp
 rw[n.o] at e Z5 L;have B:=ab A;clear A;go_enter func322,ntmps322;go_wp2_with fail;rw[n.o];refine(tj _ ZS D ZY 323 #[br a.heap.size,br m] (λ s=>decide (eg c (aO b d)<eg c (aO b s))) _ Z7 IA ?_ ?_).mono ?_
 ·intro g j;obtain⟨⟨T,Z1,q,Y,Z8⟩,_⟩:=B.o g j;exact⟨T,Z1,q,cm Y e.size,ag e Z8⟩
 ·intro g P j l;obtain⟨_,ZX,Z2,ZW,q,v⟩:=B.o g j;rw[q];have Q:=js K G (r d H) w.len u.len;have R:=js K G (r g j) w.len v.len;have W:Z2=y:=by
   have ZV:=nr (r d H);have ZU:=nr (r g j);have:=u.len;have:=v.len;omega
  subst W;have t:=au e l;exact JF a.heap.size m f _ _ _ _ _ _ _ _ c (aO b g) (aO b d) P (w.below t) (v.below t) (u.below t) R Q (ag l Z0) (ag l ZZ) (ag l L)
 rw[S.o];rintro q ZT ⟨rfl,Z9⟩;have X:=au e Z9;go_wp2;go_ret;exact⟨ct ar,X⟩
theorem GO (c:bg ay) (a:af):c9 prog (b0 322 c) a=.ok (.enter 322 c) a:=by
 have g:(Tryz.f322.name== "runtime.NumGoroutine")=ak:=ah;have b:Tryz.f322.body.isNone=ak:=ah;have d:¬Tryz.f322.name= "runtime.NumGoroutine" :=by simpa using g
 have e:¬Tryz.f322.body=aj:=by intro f;rw[f] at b;simp at b
 simp only[b0,eC,run_program,ex,func322,cR,eB,aF d,aF e,ey]
theorem E6 (f:F) (B S:aG) (K T e Z3:J) (c:ac) (a:aU (ac)) (l:af) (x:an l B K c) (o:dj l S e a):
  db 250 #[am f B K T,aa S e Z3] l (gP f c a):=by
 have Zj:=o.cap;obtain⟨v,t⟩:∃v,U ((l.alloc (al #[M f,aa B K T] 29)).alloc (al #[aa S e Z3] 30)=v):=⟨_,I⟩;have n:ap l v:=by rw[<- t.o];exact aD
 have Z1: v.cell? (ad l.heap.size 0)=Z (M f):=by rw[<- t.o];simp
 have Z0: v.cell? (ad l.heap.size 1)=Z (aa B K T):=by rw[<- t.o];simp
 have H: v.cell? (ad (l.heap.size+1) 0)=Z (aa S e Z3):=by rw[<- t.o];simp
 have Ze:v.heap.size=l.heap.size+1+1:=by rw[<- t.o];simp
 cases i:ce f c a
 ·have s:U (gP f c a=[]):=by rw[U];unfold gP;rw[i];rfl
  go_enter func250,ntmps250;go_wp2_with fail;rw[t.o];refine k4 ?_;rintro D Zq ⟨rfl,k⟩;have w:=au n k;exact xu
 ·obtain⟨d,A⟩:∃d,U (co f c=d):=⟨_,I⟩;refine yL ?_;intro s ZU ZT ZX ZW X O p N W;go_enter func250,ntmps250;go_wp2_with fail;rw[t.o];refine k4 ?_;rintro D Zq ⟨rfl,k⟩;replace Z1:=ag k Z1;replace Z0:=ag k Z0;replace H:=ag k H;have w:=au n k;have Zh:=k.size;clear k;go_wp2_with fail;refine(Ag f B K T c _ (x.below w) X).mono ?_;rintro D L ⟨⟨Zb,rfl,Z2⟩,V⟩;rw[A.o] at Z2;obtain⟨ZF,ZE,Zx,ZO⟩:=Z2.form;subst Zx;clear Z2;obtain⟨R,Z6⟩:∃R,U (d.length=R):=⟨_,I⟩;rw[Z6.o] at ZO ⊢;replace H:=ag V H;have ZB:=au w V;have Zg:=V.size;clear V Z1 Z0;go_wp2;go_loopw [6,7,8,18] (λ Zr _ _ ZZ wr=>∃(b:J) (ZY:ay),b<=e /\ ZZ=M b /\ Zr=ZY /\ av wr L.heap.size ZY (fQ d a b) /\ ap L wr) (λ _ _ _ ZZ _=>e-(intOf ZZ).toNat)
  case atStart =>
   refine⟨0,_,E,I,I,?_,az _ _⟩;exact fF L #[] 0 aZ (by unfold maxLen;omega) I
  case round =>
   obtain⟨b,ZY,ZV,rfl,rfl,u,G⟩:=hrel;obtain⟨j,rfl⟩:∃g:af,g=wr:=⟨_,I⟩;have m:=au ZB G;have Zs:=ag G H;have Zz:=ZO.below G;by_cases ZK:b<e
   ·obtain⟨ZP,Zc,Z9,Z7,P,rfl,Zk,Zn,Zi,Zw⟩:=o.at m ZK;have y:Below j.heap.size j (j.alloc (al #[aa Z9 Z7 P] 27)):=az _ _;obtain⟨Z4,Z5⟩:∃Z4,U (j.alloc (al #[aa Z9 Z7 P] 27)=Z4):=⟨_,I⟩;have Zy: Z4.cell? (ad j.heap.size 0)=Z (aa Z9 Z7 P):=by rw[<- Z5.o];simp
    rw[Z5.o] at y;have Zt:=ag y Zs;go_wp2_with fail;rw[Z5.o];refine(zJ ZF R ZE _ _ 322 #[br (l.heap.size+1),br j.heap.size] (λ z=>ir (aO d z) a b) _ (Zz.below y) GO ?_).mono ?_
    ·intro z ZR Zm Zd Zl Zu Q Zv;obtain⟨ZD,ZC⟩:=O.o z (by rw[Z6.o];exact Zu);have ZA:=au (au m y) Q;exact G7 (l.heap.size+1) j.heap.size b f _ _ _ _ _ _ (aO d z) a ZR Zv (o.below ZA) ZK _ _ _ ((Zw.below y).below Q) ZD ZC N.o (ag Q Zt) (ag Q Zy)
    have ZJ:U ((!bq (λ z=> !ir (aO d z) a b) R)=lG d a b):=by rw[U];unfold lG;rw[Z6.o]
    rw[ZJ.o];rintro D Zp ⟨rfl,ZN⟩;have C:=au (au G y) ZN;have r:=(u.below y).below ZN;have Zf:=C.size;have ZI:=tW d a b;cases ZM:lG d a b
    ·have q:U (fQ d a (b+1)=fQ d a b):=by rw[U,nz,ZM];rfl
     exact wl
    ·have q:U (fQ d a (b+1)=fQ d a b++[(b:F)]):=by rw[U,nz,ZM];rfl
     obtain⟨g,ZQ⟩:∃g,U ((fQ d a b).length=g):=⟨_,I⟩;rw[ZQ.o] at ZI;go_wp2_with (at_builtin;refine iz I _ _ I L.heap.size _ _ g ZQ.o a6 (r.below (az Zp _)) _ _ (b:F) a6 ar E (by simp;omega) ?_;intro Zo P ZR Z8 ZL);have Y:=ab (cV (B:=L.heap.size) (C.alloc E _) (by simp;omega) ZL (λ ZP D=>(r.block ZP D).1));clear ZL u r m G;exact sn
   ·exact rY
theorem EJ {t:bg bD} {rest:aU bD} {k:bD} {f:Act} {a:af} {q:Exit->Act->af->Prop} (y:k.guard=aj) (n o:Operand)
  (C:k.op=.call {callee:=.builtin .append,args:=#[n,o],argTypes:=#[27,27]})
  (g:J) (d:ay) (e:ac) (j:J) (A:e.length=j) (G:f.eval n=d) (D:av a g d e)
  (l r:J) (m:F) (H:f.eval o=aq l 1 r) (B: a.cell? (ad l 0)=Z (M m))
  (T:j<1000000000) (x:g<=a.heap.size)
  (v:∀b h c,av c g (aq b (j+1) h) (e++[m])->a.grownBy c d.ownBlock->(d.ownBlock=Z b \/ a.heap.size<=b)->wpList prog t q rest (f.put k.dst (aq b (j+1) h)) c):
  wpList prog t q (k::rest) f a:=by
 obtain⟨O,z,K,L,N⟩:=info_parts ig;subst A;refine wpList_plain y λ _ w=>wp_append_lies a n o 27 C g 3 O (M 0) 1 8 underlying27 z K L N I aX d e.length (e.map (ed .i64)) G D (ad l 0) 1 r [M m] H I ?_ ?_ aX (by unfold maxLen;omega) E x _ I λ b h c Q R S U=>w _ _ (v b h c ?_ R ?_)
 ·intro P u i
  match P,i with
  | 0,i=>simp at i;subst i;rw[pg];exact B
 ·intro u p;simp at p;subst p;rfl
 ·simpa [av] using Q
 ·rcases S with s | s
  ·exact bj s
  ·exact aP E
theorem IB (e:J) (g:F) (i Z2:aG) (j l c ZL:J) (a:ac) (d:aU (ac)) (q:af) (X:an q i j a) (ZU:dj q Z2 c d) (ZX:e<c) (Zt:c<=8)
  (ZV:aI g a=ae) (Z0:O a 0=0) (ZY:∀b,b<c->b7 g (aO d b)=ae):
  aC 191 #[am g i j l,aa Z2 c ZL,M e] q (aw (ir a d e)):=by
 have ZS:=ab ZU.len;have Z5:=ab ZV;clear ZV;have B:=ab Z0;clear Z0;have Z6:=ab ZY;clear ZY;have v:=az q (al #[M g,aa i j l] 29);obtain⟨t,A⟩:∃t,U (q.alloc (al #[M g,aa i j l] 29)=t):=⟨_,I⟩;have ZE: t.cell? (ad q.heap.size 0)=Z (M g):=by rw[<- A.o];simp
 have ZD: t.cell? (ad q.heap.size 1)=Z (aa i j l):=by rw[<- A.o];simp
 rw[A.o] at v;have ZF:=X.below v;have ZT:=ZU.below v;obtain⟨C,H⟩:∃C,U (ir a d e=C):=⟨_,I⟩;rw[H.o];go_enter func191,ntmps191;go_wp2;rw[A.o];go_loopw [7] (λ Y wr=>∃b:J,b<=c /\ Y=M b /\ bq (λ u=> !decide (eg a (aO d e)<eg a (aO d u))) b=ae /\ ap t wr) (λ Y _=>c-(intOf Y).toNat)
 case atStart=>exact⟨0,E,I,I,Below.refl _ _⟩
 case round =>
  obtain⟨b,Zu,rfl,ZZ,m⟩:=hrel;have G:=ab ZZ;clear ZZ;by_cases W:b<c
  ·have Zq:=ag m ZE;have Zp:=ag m ZD;have n:=ZF.below m;obtain⟨ZB,Zs,Z8,D,Z7,rfl,Zz,ZC,Zx,x⟩:=ZT.at m W;obtain⟨ZA,Zr,Z3,Z9,Z1,N,_,_,Zy,w⟩:=ZT.at m ZX;injection N with N
   injection N with ZK ZJ
   subst ZK ZJ;have o:=js Z5.o B.o (Z6.o b W) X.len x.len;have p:=js Z5.o B.o (Z6.o e ZX) X.len w.len;have ZG:D<=29:=by have:=o.m4;omega
   have ZR:Z9<=29:=by have:=p.m4;omega
   have r:U (∀f,an f i j a->an f Z8 D (aO d b)->aC 186 #[am g i j l,aa Z8 D Z7] f (M (eg a (aO d b)))):= λ f R S=>by
    have:=oK g _ _ _ l _ Z7 a (aO d b) f R S o.n16 o.n1 ZG B.o o.xb o.gb;unfold eg;rw[o.xlen];exact this
   have s:U (∀f,an f i j a->an f Z3 Z9 (aO d e)->aC 186 #[am g i j l,aa Z3 Z9 Z1] f (M (eg a (aO d e)))):= λ f R S=>by
    have:=oK g _ _ _ l _ Z1 a (aO d e) f R S p.n16 p.n1 ZR B.o p.xb p.gb;unfold eg;rw[p.xlen];exact this
   have K:U (eg a (aO d e)<eg a (aO d b)->C=ak):= λ ZI=>by
    rw[<- H.o];unfold ir;exact jn (p:= λ u=> !decide (eg a (aO d e)<eg a (aO d u))) (by rw[ZS.o];exact W) (by simp[ZI])
   have Z4:U (bq (λ u=> !decide (eg a (aO d e)<eg a (aO d u))) (b+1)=(ae&& !decide (eg a (aO d e)<eg a (aO d b)))):=by rw[U,BJ,G.o]
   clear o p G;obtain⟨y,T⟩:∃y,eg a (aO d b)=y:=⟨_,I⟩;obtain⟨z,V⟩:∃z,eg a (aO d e)=z:=⟨_,I⟩;rw[T] at r K;rw[V] at s K;rw[T] at Z4;have ZN:=ab V;clear T V;refine l4 ?_;intro P Q;have Zw:(0:F)<=(e:F):=E;have Zv:(e:F)<(c:F):=E;by_cases ZH:z<y
   ·have ZP:=ab (K.o ZH);go_wp2;refine cC ?_;repeat (first | go_big_quiet_step ((first | (go_at_call 186;(with_reducible exact aQ (r.o _ (n.below (aM _ _)) (x.below (aM _ _))))) | (go_at_call 186;(with_reducible exact aQ (s.o _ (n.below (aM _ _)) (w.below (aM _ _))))))) | quiet_step ((first | (go_at_call 186;(with_reducible exact aQ (r.o _ (n.below (aM _ _)) (x.below (aM _ _))))) | (go_at_call 186;(with_reducible exact aQ (s.o _ (n.below (aM _ _)) (w.below (aM _ _))))))))
    refine et ?_;intro L k;go_wp2;go_ret;exact⟨ct ZP.o.symm,au (au v m) k⟩
   ·go_wp2;refine cC ?_;repeat (first | go_big_quiet_step ((first | (go_at_call 186;(with_reducible exact aQ (r.o _ (n.below (aM _ _)) (x.below (aM _ _))))) | (go_at_call 186;(with_reducible exact aQ (s.o _ (n.below (aM _ _)) (w.below (aM _ _))))))) | quiet_step ((first | (go_at_call 186;(with_reducible exact aQ (r.o _ (n.below (aM _ _)) (x.below (aM _ _))))) | (go_at_call 186;(with_reducible exact aQ (s.o _ (n.below (aM _ _)) (w.below (aM _ _))))))))
    refine et ?_;intro L k;have ZQ:=ab (au m k);have ZO:U (decide (z<y)=ak):=iP E;clear k;go_wp2;go_roundw
    case rel=>exact⟨b+1,E,by go_num,by rw[Z4.o,ZN.o,ZO.o];rfl,ZQ.o⟩
    case measure=>simp[intOf];omega
  ·have ZW:b=c:=E;have ZM:U (C=ae):=by rw[U,<- H.o];unfold ir;rw[ZS.o,<- ZW];exact G.o
   clear ZW;go_wp2;go_ret;exact⟨ct ZM.o.symm,au v m⟩
def mC (b c:aU (ac)) (d a:J):a8:= !bq (λ a=> !ir (aO b a) c d) a
theorem JG (b c:aU (ac)) (d a:J):mC b c d (a+1)=(mC b c d a||ir (aO b a) c d):=by
 unfold mC;rw[BJ];cases bq (λ a=> !ir (aO b a) c d) a<;>cases ir (aO b a) c d<;>rfl
theorem Ej (f:F) (D Y:aG) (H L e ZZ:J) (c:ac) (a:aU (ac)) (k:af) (Z2:an k D H c) (o:dj k Y e a):
  db 91 #[am f D H L,aa Y e ZZ] k (gP f c a):=by
 have YX:=o.cap;obtain⟨n,z⟩:∃n,U (k.alloc (al #[M f,aa D H L] 29)=n):=⟨_,I⟩;have Zn:ap k n:=by rw[<- z.o];exact az _ _
 have Zi: n.cell? (ad k.heap.size 0)=Z (M f):=by rw[<- z.o];simp
 have Zh: n.cell? (ad k.heap.size 1)=Z (aa D H L):=by rw[<- z.o];simp
 have ZI:n.heap.size=k.heap.size+1:=by rw[<- z.o];simp
 have v:=av.lit n;have Z6:Below n.heap.size n (n.alloc (al #[] 3)):=az _ _;have Ze:(n.alloc (al #[] 3)).heap.size=n.heap.size+1:=ar;rw[ZI] at v;have ZK:=ag Z6 Zi;have ZJ:=ag Z6 Zh;have B:=au Zn Z6;cases i:ce f c a
 ·have s:U (gP f c a=[]):=by rw[U];unfold gP;rw[i];rfl
  go_enter func91,ntmps91;go_wp2_with fail;rw[z.o];refine(na _ _ _ _ _ _ _ c a _ (Z2.below B) (o.below B)).mono ?_;rw[i];rintro r Y8 ⟨rfl,t⟩;have Zz:=ab (v.below t);have ZE:=ab (au B t);clear t v;go_wp2;go_ret;exact⟨⟨_,I,by rw[s.o];exact Zz.o.mono E⟩,ZE.o⟩
 ·obtain⟨d,A⟩:∃d,U (co f c=d):=⟨_,I⟩;refine yL ?_;intro s ZU ZT ZX ZW X O p N W;go_enter func91,ntmps91;go_wp2_with fail;rw[z.o];refine(na _ _ _ _ _ _ _ c a _ (Z2.below B) (o.below B)).mono ?_;rw[i];rintro r Y8 ⟨rfl,t⟩;have Zd:=ag t ZK;have Zc:=ag t ZJ;have ZY:=au B t;replace v:=v.below t;have Zf:=t.size;rw[Ze,ZI] at Zf;clear t ZK ZJ;go_wp2_with fail;refine(Ah f D H L c _ (Z2.below ZY)).mono ?_;rintro r T ⟨⟨YQ,rfl,G⟩,P⟩;rw[A.o] at G;obtain⟨w,K⟩:∃w,U (d.length=w):=⟨_,I⟩;rw[K.o] at G;obtain⟨Y4,Y2,Z4,Z5⟩:=G.form;subst Z4;clear Z5;replace v:=v.below P;have Zo:=au ZY P;have YT:=P.size;have Zj:=G.mono (base':=k.heap.size+1+1) E;have Y1:w<=24:=by rw[<- K.o,<- A.o];exact qx _ _
  clear P Zd Zc G;go_wp2;go_loopw [5,7] (λ Za y wr=>∃(b:J) (S:ay),b<=e /\ y=M b /\ Za=S /\ av wr (k.heap.size+1) S (fQ d a b) /\ aA (k.heap.size+1) (k.heap.size+1+1) T wr /\ (∀q,S.ownBlock=Z q->q=k.heap.size+1 \/ T.heap.size<=q)) (λ _ y _=>e-(intOf y).toNat)
  case atStart=>exact⟨0,_,E,I,I,v,aA.refl _ _ _,λ q r=>bj (dD r)⟩
  case round =>
   clear v;obtain⟨b,S,ZV,rfl,rfl,u,C,Q⟩:=hrel;obtain⟨j,rfl⟩:∃g:af,g=wr:=⟨_,I⟩;have YR:=C.size;have m:ap k j:=aA.below Zo E C E;by_cases Zk:b<e
   ·obtain⟨Y6,Y5,Z4,Z5⟩:=(Zj.span C aZ).form;injection Z4 with Z9 Zs Zr
    subst Z9 Zr;clear Zs;have Zg:=o.below m;go_wp2;go_loopw [8,9] (λ Y9 y wr=>∃l:J,l<=w /\ y=M l /\ Y9=aw (mC d a b l) /\ ap j wr) (λ _ y _=>w-(intOf y).toNat)
    case atStart=>exact⟨0,E,I,I,Below.refl _ _⟩
    case round =>
     obtain⟨l,YW,rfl,rfl,x⟩:=hrel;have Z1:=ab (JG d a b l);by_cases ZL:l<w
     ·obtain⟨Y3,Zv,Zb,Zu,rfl,_,Y0,YZ,YY,Zl⟩:=Z5.at x ZL;obtain⟨Zq,Zp⟩:=O.o l (by rw[K.o];exact ZL);have YV:(0:F)<=(l:F):=E;have YU:(l:F)<(w:F):=E;cases ZQ:mC d a b l
      ·go_wp2_with fail;refine(IB b f Zv Y Zb Zu e ZZ (aO d l) a _ Zl (Zg.below x) Zk W Zq Zp N.o).mono ?_;rintro r YP ⟨rfl,ZR⟩;have ZD:=ab (au x ZR);clear ZR;go_wp2;go_roundw
       case rel=>exact⟨l+1,E,by go_num,by rw[Z1.o,ZQ];rfl,ZD.o⟩
       case measure=>simp[intOf];omega
      ·go_wp2;go_roundw
       case rel=>exact⟨l+1,E,by go_num,by rw[Z1.o,ZQ];rfl,x⟩
       case measure=>simp[intOf];omega
     ·have ZM:l=w:=E;have ZB:=ab ZM;clear ZM;have ZC:U (mC d a b l=lG d a b):=by rw[U,ZB.o];unfold mC lG;rw[K.o]
      rw[ZC.o];have Z3:=u.below x;have YS:=x.size;have ZA:=tW d a b;cases ZP:lG d a b
      ·have V:U (fQ d a (b+1)=fQ d a b):=by rw[U,nz,ZP];rfl
       have Zy:=ab (C.grown2 (iC x aj) (λ b r=>by cases r));go_wp2;go_roundw
       case rel=>exact⟨b+1,_,E,by go_num,I,by rw[V.o];exact Z3,Zy.o,Q⟩
       case measure=>simp[intOf];omega
      ·have V:U (fQ d a (b+1)=fQ d a b++[(b:F)]):=by rw[U,nz,ZP];rfl
       obtain⟨R,Z0⟩:∃R,U ((fQ d a b).length=R):=⟨_,I⟩;rw[Z0.o] at ZA;go_wp2_with (at_builtin;refine EJ I _ _ I (k.heap.size+1) _ _ R Z0.o a6 (Z3.below (az wr _)) _ _ (b:F) a6 ar E (by simp;omega) ?_;intro Z8 Zt YO ZF ZN ZO);have Zm:Z8=k.heap.size+1 \/ T.heap.size<=Z8:=by
        rcases ZO with Z7 | Z7
        ·exact Q _ Z7
        ·simp at Z7;omega
       have Zx:=ab (C.grown2 (Ab (x.alloc E _) ZN) (λ q r=>by have:=Q q r;omega));have Zw:U (∀q,(aa (Z (ad Z8 0)) (R+1) Zt).ownBlock=Z q->q=k.heap.size+1 \/ T.heap.size<=q):= λ q r=>by
        have Z9:=dD r;subst Z9;exact Zm
       clear ZN u Z3 Q C ZO;go_roundw
       case rel=>exact⟨b+1,_,E,by go_num,I,by rw[V.o];exact ZF,Zx.o,Zw.o⟩
       case measure=>simp[intOf];omega
   ·exact rY
theorem Ms:∀a b:Fin 16,(bits fY cz ((b.val:J):F) ((a.val:J):F)==0)=decide (b.val&&&a.val=0):=cS
def bU (a:J) (b:J):a8:= !decide (b&&&a=0)
theorem IC (a b e:J) (d:af) (k:a<16) (i:b<16) (j: d.cell? (ad e 0)=Z (M a)):
  aY prog 325 #[M b,br e] d λ g f=>g=aV (aw (bU a b)) /\ d=f:=by
 have c:=Ms ⟨a,k⟩ ⟨b,i⟩;simp only at c;unfold bU;rw[<- c];clear c;go_enter func325,ntmps325;go_wp2;go_ret;exact⟨I,I⟩
theorem G8 (c:bg ay) (a:af):c9 prog (b0 325 c) a=.ok (.enter 325 c) a:=by
 have g:(Tryz.f325.name== "runtime.NumGoroutine")=ak:=ah;have b:Tryz.f325.body.isNone=ak:=ah;have d:¬Tryz.f325.name= "runtime.NumGoroutine" :=by simpa using g
 have e:¬Tryz.f325.body=aj:=by intro f;rw[f] at b;simp at b
 simp only[b0,eC,run_program,ex,func325,cR,eB,aF d,aF e,ey]
theorem nh (j:F) (a:J) (e:aG) (b t:J) (c:ac) (d:af) (p:an d e b c) (n:a<16) (o:b<=16) (i:∀g,g<b->0<=O c g /\ O c g<=1000000):
  aC 253 #[am j e b t,M a] d (M (a9 (bm (bU a)) c b)):=by
 have l:=ab i;clear i;go_enter func253,ntmps253;go_wp2_with fail;refine(tQ j e b t c 325 _ (bU a) _ (p.below aD) G8 ?_ o l.o).mono ?_
 ·intro m k f r;exact IC a m (d.heap.size+1) k n E (aS f (d.heap.size+1) 0 (M a))
 rintro q s ⟨rfl,f⟩;go_wp2;go_ret;exact⟨I,bJ f⟩
theorem E7 (d:F) (a:J) (C:aG) (f n:J) (c:ac) (l:af) (g:an l C f c) (k:aI d c=ae) (x:a<aH d):
  aC 145 #[am d C f n,M a] l (M (a9 (bm (bU a)) c f)):=by
 obtain⟨t,r,o,b,_⟩:=bt k;have z:=g.len;have q:bi 0 ((aH d:F)-1) a=ae:=bM.2 E;have m:U (∀e,e<f->0<=O c e /\ O c e<=1000000):= λ e y=>b e E
 have s:f<=16:=E;have p:a<16:=E;clear b r o;go_enter func145,ntmps145;go_wp2_with fail;refine(cn _ _ _ _ c _ (g.below aD)).mono ?_;rw[k];rintro i A ⟨rfl,b⟩;obtain⟨v,w,j⟩:=dZ b;clear b;go_wp2_with fail;refine(fh d a _ t).mono ?_;rw[q];rintro i u ⟨rfl,rfl⟩;go_wp2_with fail;refine(nh d a _ _ _ c _ (g.below j) p s m.o).mono ?_;rintro i B ⟨rfl,b⟩;go_wp2;go_ret;exact⟨I,au j b⟩
theorem tx (o:F) (c:J) (H:aG) (b m:J) (f:ac) (l:af) (u:an l H b f) (s:c<16) (B:b<=16) (i:∀a,a<b->0<=O f a /\ O f a<=1000000):
  aC 96 #[am o H b m,M c] l (M (a9 (bm (cy c)) f b)):=by
 have q:=ab i;have p:=ab (i3 (cy c) f b i);clear i;have e:=az l (al #[M o,aa H b m] 29);go_enter func96,ntmps96;go_wp2;go_loop [5,6] (λ v j=>∃a:J,a<=b /\ j=M a /\ v=M (a9 (bm (cy c)) f a)) (λ _ j=>b-(intOf j).toNat)
 case atStart=>exact⟨0,E,I,I⟩
 case round =>
  obtain⟨a,t,rfl,rfl⟩:=hrel;by_cases n:a<b
  ·obtain⟨x,G,rfl,y,w,z⟩:=u.at e n;have C:=q.o a n;have D:=p.o a t;have A:(a:F)<=16:=E;have g:=tS ⟨c,s⟩ ⟨a,E⟩;simp only at g;have k:U (a9 (bm (cy c)) f (a+1)=a9 (bm (cy c)) f a+(if cy c a then 1 else 0)*O f a):=rfl;cases d:cy c a
   ·have r:(bits hZ cz (a:F) (c:F)==0)=ak:=by rw[g];exact d
    clear g;go_wp2;exact kU
   ·have r:(bits hZ cz (a:F) (c:F)==0)=ae:=by rw[g];exact d
    clear g;go_wp2;exact kU
  ·exact oa
theorem da.row {f:af} {k j:J} {m:ay} {t p} (u:da f k m j t p) {a:J} (w:a<j):
  ∃b n c e d,m=aq b j n /\ f.cell? ⟨b,a*2,aj⟩=Z (M (t a)) /\ f.cell? ⟨b,a*2+1,aj⟩=Z (aa c e d) /\ av f k (aa c e d) (p a):=by
 obtain⟨H,G,h,v,_⟩:=u.own;rcases h.2 with ⟨rfl,y⟩ | ⟨b,o,x,rfl,A,B,D,z,E,F⟩
 ·omega
 ·obtain⟨q,r,i,_⟩:=v a w;have l:=iN h (g:=b) I (a*2) _ q;have g:=iN h (g:=b) I (a*2+1) _ r;obtain⟨c,e,d,s,C⟩:=i.ints;rw[pg] at l g;rw[s] at i g;exact⟨b,o,c,e,d,I,l,g,i⟩
end Go.Proofs.YtkjnhlpccgjfhaaGreatDoor
