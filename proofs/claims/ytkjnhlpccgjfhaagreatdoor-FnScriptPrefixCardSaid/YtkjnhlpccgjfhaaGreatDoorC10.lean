/- A part of the proof: lemmas (my texts, shortened by a program of mine). -/
import Derived.RegionCalls
import Derived.Test.YtkjnhlpccgjfhaaGreatDoorC09
set_option linter.all false
set_option maxRecDepth 100000
set_option maxHeartbeats 4000000
namespace Go.Proofs.YtkjnhlpccgjfhaaGreatDoor
open Go.RowKit
open Go.Proofs.Tryz
open Bool renaming and_eq_true->b9,false->ak,true->ae,true_and->eo
open Classical renaming byContradiction->jJ
open Go renaming Calls->aY,Value->ay,World->af,bodyPost_ret->aK,results->aJ,wpQuiet_nil->dn
open Go.Ending renaming returned->aV
open Go.IntWalk renaming i64_in->bV
open Go.Obj renaming cells->al
open Go.Value renaming agg->ba,bool->aw,slice->aa,tuple->aL
open Go.World renaming ownsRow_lit->fF
open Int renaming toNat_natCast->cI
open List renaming getD_eq_getElem?_getD->jH,length_append->dm,length_set->iu,replicate->bE
open Nat renaming le_refl->bL
open Option renaming none->aj,some->Z
open Or renaming inl->bj,inr->aP
open _root_ renaming Bool->a8,Int->F,Nat->J,absurd->bC,decide_eq_true->fW,decide_eq_true_iff->mK,if_neg->aF,if_pos->a7,of_decide_eq_true->n3,rfl->I
variable {p q:Prop}
def hN (c:J->F) (b d:J):ac:=bx (λ a e=>e.set a (c a)) (bE b 0) d
theorem BQ (c:J->F) (a b:J):(hN c a b).length=a:=by
 induction b with
 | zero=>simp[hN,bx]
 | succ b d=>show ((hN c a b).set _ _).length=a;rw[iu];exact d
theorem BR (d:J->F) (c a b:J) (h:a<=c):O (hN d c a) b=if b<a then d b else 0:=by
 induction a with
 | zero=>show O (bE c 0) b=_;rw[eF,aF E]
 | succ a g =>
  show O ((hN d c a).set a (d a)) b=_
  rw[cO,g E,BQ]
  by_cases f:a=b
  ·subst f;rw[a7 ⟨rfl,E⟩,a7 E]
  ·rw[aF E];by_cases e:b<a
   ·rw[a7 e,a7 E]
   ·rw[aF e,aF E]
def hq (b:J->F) (c:J):ac:=bx (λ a d=>d++[b a]) [] c
theorem nB (b:J->F) (a:J):(hq b a).length=a:=by
 induction a with
 | zero=>rfl
 | succ a c=>show (hq b a++[b a]).length=a+1;rw[dm,c];rfl
theorem BS (c:J->F) (a b:J):O (hq c a) b=if b<a then c b else 0:=by
 induction a with
 | zero=>rfl
 | succ a d =>
  show O (hq c a++[c a]) b=_
  unfold O at d ⊢
  rw[jH] at d ⊢
  by_cases e:b<a
  ·rw[List.getElem?_append_left (by rw[nB];exact e),d,a7 e,a7 E]
  ·rw[List.getElem?_append_right (by rw[nB];omega),nB];by_cases f:b=a
   ·subst f;rw[a7 E];simp
   ·rw[aF E,List.getElem?_eq_none (by simp;omega)];rfl
theorem MM (b:J->F) (a:J):hN b a a=hq b a:=by
 refine kI _ _ (by rw[BQ,nB]) λ d c=>?_
 rw[BR _ _ _ _ aZ,BS]
def ip (f g:ac) (b e c d:F) (a:J):F:=b*O f a*d+(e-b)*O g a*c
def cB (e:F) (a:ac) (f:F) (c:ac) (d b:F):bc :=
 if cJ e a f c&&(gY d b&&decide (b<=1000)) then bh e (hq (ip a c d b (aW a) (aW c)) a.length) else bc.no
theorem nK {a b A d:F} (e:0<=a /\ a<=A) (c:0<=b /\ b<=d):0<=a*b /\ a*b<=A*d :=
 ⟨Int.mul_nonneg e.1 c.1,Int.mul_le_mul e.2 c.2 c.1 E⟩
theorem CX {a b num den X Y:F} (e:0<=a /\ a<=1000000) (f:0<=b /\ b<=1000000) (c:0<=X /\ X<=1000000) (d:0<=Y /\ Y<=1000000) (i:0<=num /\ num<=den) (n:den<=1000):
  (0<=num*a /\ num*a<=1000000000) /\ (0<=num*a*Y /\ num*a*Y<=1000000000000000) /\ (0<=(den-num)*b /\ (den-num)*b<=1000000000) /\ (0<=(den-num)*b*X /\ (den-num)*b*X<=1000000000000000) /\
  (0<=a*Y /\ a*Y<=1000000000000) /\ (0<=b*X /\ b*X<=1000000000000) /\ a*Y*num=num*a*Y /\ b*X*(den-num)=(den-num)*b*X:=by
 have g:=nK (a:=num) (A:=1000) ⟨i.1,E⟩ e;have j:=nK (A:=1000000000) ⟨g.1,E⟩ d;have h:=nK (a:=den-num) (A:=1000) ⟨E,E⟩ f;have k:=nK (A:=1000000000) ⟨h.1,E⟩ c;have l:=nK e d;have m:=nK f c;refine⟨E,E,E,E,E,E,?_,?_⟩
 ·rw[Int.mul_comm (a*Y),Int.mul_assoc]
 ·rw[Int.mul_comm (b*X),Int.mul_assoc]
theorem KB {g h:ac} {f e c d:F} {i:J} (o:∀a,a<i->0<=O g a /\ O g a<=1000000) (p:∀a,a<i->0<=O h a /\ O h a<=1000000) (k:0<=c /\ c<=1000000) (l:0<=d /\ d<=1000000) (n:0<=f /\ f<=e) (m:e<=1000) {b:J} (j:b<i):
  0<=ip g h f e c d b /\ ip g h f e c d b<=4000000000000000000:=by
 obtain⟨_,q,_,r,_⟩:=CX (o b j) (p b j) k l n m;unfold ip;omega
theorem rr {W:af} {A:J} (c:TypeId) (a b:ay) (d:W.heap.size=A):(W.alloc (al #[a,b] c)).cell? (ad A 0)=Z a /\ (W.alloc (al #[a,b] c)).cell? (ad A 1)=Z b /\ (W.alloc (al #[a,b] c)).frozen? (ad A 0)=ak /\ (W.alloc (al #[a,b] c)).frozen? (ad A 1)=ak /\ A<(W.alloc (al #[a,b] c)).heap.size:=by
 subst d;simp
theorem Bi (a:af) (h k n r:TypeId) (c d e f i j l m:ay):
  let b:=(((a.alloc (al #[c,d] h)).alloc (al #[e,f] k)).alloc (al #[i,j] n)).alloc (al #[l,m] r)
  b.cell? (ad a.heap.size 0)=Z c /\ b.cell? (ad a.heap.size 1)=Z d /\ b.cell? (ad (a.heap.size+1) 0)=Z e /\ b.cell? (ad (a.heap.size+1) 1)=Z f /\
  b.cell? (ad (a.heap.size+1+1) 0)=Z i /\ b.cell? (ad (a.heap.size+1+1) 1)=Z j /\ b.cell? (ad (a.heap.size+1+1+1) 0)=Z l /\ b.cell? (ad (a.heap.size+1+1+1) 1)=Z m /\
  b.frozen? (ad (a.heap.size+1+1+1) 0)=ak /\ b.frozen? (ad (a.heap.size+1+1+1) 1)=ak /\ a.heap.size+1+1+1<b.heap.size:=by
 have o:=rr (W:=a) h c d I;have p:=rr (W:=a.alloc (al #[c,d] h)) (A:=a.heap.size+1) k e f ar;have q:=rr (W:=(a.alloc (al #[c,d] h)).alloc (al #[e,f] k)) (A:=a.heap.size+1+1) n i j ar;have g:=rr (W:=((a.alloc (al #[c,d] h)).alloc (al #[e,f] k)).alloc (al #[i,j] n)) (A:=a.heap.size+1+1+1) r l m ar;refine⟨?_,?_,?_,?_,?_,?_,g.1,g.2.1,g.2.2.1,g.2.2.2.1,g.2.2.2.2⟩
 ·exact ag (az _ _) (ag (az _ _) (ag (az _ _) o.1))
 ·exact ag (az _ _) (ag (az _ _) (ag (az _ _) o.2.1))
 ·exact ag (az _ _) (ag (az _ _) p.1)
 ·exact ag (az _ _) (ag (az _ _) p.2.1)
 ·exact ag (az _ _) q.1
 ·exact ag (az _ _) q.2.1
theorem tw (N D g i:F) (Z6 Z5:aG) (ZU ZM ZV ZL:J) (a j:ac) (k:af) (Z2:an k Z6 ZU a) (Z1:an k Z5 ZV j):
  bp 161 #[am N Z6 ZU ZM,am D Z5 ZV ZL,ba #[M g,M i]] k (cB N a D j g i):=by
 obtain⟨Zz,ZB⟩:∃Zz,U ((((k.alloc (al #[M N,aa Z6 ZU ZM] 29)).alloc (al #[M D,aa Z5 ZV ZL] 29)).alloc (al #[M g,M i] 55)).alloc (al #[M 0,aa aj 0 0] 29)=Zz):=⟨_,I⟩;have ZY:ap k Zz:=by rw[<- ZB.o];exact aD
 obtain⟨m,n,x,r,u,w,c,d,e,f,YQ⟩:=Bi k 29 29 55 29 (M N) (aa Z6 ZU ZM) (M D) (aa Z5 ZV ZL) (M g) (M i) (M 0) (aa aj 0 0);rw[ZB.o] at m n x r u w c d e f YQ;obtain⟨ZQ,Ze⟩:∃K,U (k.heap.size+1+1+1=K):=⟨_,I⟩;obtain⟨Y8,Zf⟩:∃K,U (k.heap.size+1+1=K):=⟨_,I⟩;obtain⟨Y9,Zg⟩:∃K,U (k.heap.size+1=K):=⟨_,I⟩;rw[Ze.o] at c d e f YQ;rw[Zf.o] at u w;rw[Zg.o] at x r;have Ye:k.heap.size<Y9 /\ Y9<Y8 /\ Y8<ZQ:=by rw[<- Ze.o,<- Zf.o,<- Zg.o];omega
 have YK:=Z2.below ZY;have YJ:=Z1.below ZY;cases Z8:cJ N a D j
 ·have V:U (cB N a D j g i=bc.no):=by show cB N a D j g i=bc.no;unfold cB;rw[Z8];rfl
  rw[V.o];go_enter func161,ntmps161;go_wp2_with fail;refine s7 ?_;rw[Z8];rintro t YP ⟨rfl,s⟩;refine m9 ?_;intro m n x r u w e f c d;have l:=au ZY s;clear s;go_wp2;refine aK (v:=aL #[am 0 aj 0 0,aw ak]) (by simp[aJ,results161,go_sem,c,d]) I ⟨b1.no _ _,?_⟩;exact aD
 ·cases W:(gY g i&&decide (i<=1000))
  ·have V:U (cB N a D j g i=bc.no):=by show cB N a D j g i=bc.no;unfold cB;rw[W];simp
   rw[V.o];go_enter func161,ntmps161;go_wp2_with fail;refine s7 ?_;rw[Z8];rintro t YP ⟨rfl,s⟩;refine m9 ?_;intro m n x r u w e f c d;have l:=au ZY s;clear s;go_wp2_with fail;refine(qE _ _ _).mono ?_;rintro t Zi ⟨rfl,v⟩;refine p7 ?_;intro m n x r u w;refine hF ?_;intro e f c d A;clear v;cases ZF:gY g i;all_goals
    (try (rw[ZF,eo,decide_eq_false_iff_not] at W));go_wp2;refine aK (v:=aL #[am 0 aj 0 0,aw ak]) (by simp[aJ,results161,go_sem,c,d]) I ⟨b1.no _ _,?_⟩;exact aD
  ·have V:U (cB N a D j g i=bh N (hN (ip a j g i (aW a) (aW j)) a.length a.length)):=by rw[U,MM];unfold cB;rw[Z8,W];rfl
   rw[V.o];rw[b9,mK] at W;obtain⟨W,Zh⟩:=W;have Yb:=oU W;obtain⟨Zl,YV,Yt,ZH⟩:=fN Z8;subst Yt;obtain rfl:ZU=a.length:=Z2.len.symm;have Yw:ZV=a.length:=by rw[<- Z1.len,ZH]
   subst Yw;obtain⟨q,ZJ⟩:∃q,a.length=q:=⟨_,I⟩;obtain⟨ZF,_,ZK,Z9,YD,ZS,_⟩:=bt Zl;obtain⟨_,_,_,S,YC,ZR,_⟩:=bt YV;have YS:=(bt Zl).2.1;have Yv:=b8 ZF;rw[ZH] at S;rw[ZJ] at Z2 Z1 YK YJ n r ZK Z9 S V ZB YS ⊢;have Yc:2<=q:=E;have Yk:=ab ZJ;have Yj:U (j.length=q):=by rw[U,ZH,ZJ]
   have YG:=ab Z8;obtain⟨y,Zo⟩:∃y,aW a=y:=⟨_,I⟩;obtain⟨z,Zn⟩:∃z,aW j=z:=⟨_,I⟩;rw[Zo] at YD ZS V ⊢;rw[Zn] at YC ZR V ⊢;have Y6:U (∀T,an T Z6 q a->aC 157 #[am D Z6 q ZM] T (M y)):= λ T Zu=>by rw[<- Zo];exact gi _ _ _ _ a T Zu (λ b ZI=>by have:=Z9 b ZI;omega) ZK
   have Y5:U (∀T,an T Z5 q j->aC 157 #[am D Z5 q ZL] T (M z)):= λ T Zu=>by rw[<- Zn];exact gi _ _ _ _ j T Zu (λ b ZI=>by have:=S b ZI;omega) ZK
   refine yO ?_;intro Z7 ZT;have YF:=ab W;have Y7:U (∀b,hN (ip a j g i y z) q (b+1)=(hN (ip a j g i y z) q b).set b (g*O a b*z+(i-g)*O j b*y)):= λ b=>rfl
   obtain⟨Z4,YY⟩:∃Yz,ip a j g i y z=Yz:=⟨_,I⟩;rw[YY] at Y7 Z7 ⊢;clear YY V ZJ ZH Zl YV Zo Zn Z9 S YS Yv ZF W;go_enter func161,ntmps161;go_wp2_with fail;refine s7 ?_;rw[YG.o];rintro t YP ⟨rfl,s⟩;refine m9 ?_;intro m n x r u w e f c d;have l:=au ZY s;clear s Z8;go_wp2_with fail;refine(qE _ _ _).mono ?_;rw[YF.o];rintro t Zi ⟨rfl,v⟩;refine p7 ?_;intro m n x r u w;refine hF ?_;intro e f c d A;clear v;have Ys:ZQ<Zi.heap.size:=b6 c;go_wp2_with (at_make;refine e6 I _ _ I q _ _ I I I I E ?_;intro Yp Zk L Yr;(have ZE:=ag L m);(have ZD:=ag L n);(have Zb:=ag L x);(have Za:=ag L r);(have Zd:=ag L u);(have Zc:=ag L w);(have G:=ag L c);(have H:=ag L d);(have P:=aB L c e);(have Q:=aB L d f));have Z0:=au A L;clear m n x r u w c d e f L;obtain⟨Z3,o⟩:∃Z3,Zi.heap.size=Z3:=⟨_,I⟩;rw[o] at Zk Yr Ys ⊢;clear o;have Yu:=Zk;clear Zk;go_loopw [9,31] (λ _ Zj wr=>∃b:J,b<=q /\ Zj=M b /\ av wr Z3 (aq Z3 q q) (hN Z4 q b) /\ Yp.grownBy wr (Z Z3)) (λ _ Zj _=>q-(intOf Zj).toNat)
   case atStart=>exact⟨0,E,I,Yu,hI _ _⟩
   case round =>
    obtain⟨b,ZI,rfl,ZG,o⟩:=hrel;refine sA ?_;intro B m n;have x:=cW o Zb E;have r:=cW o Za E;have u:=cW o Zd E;have w:=cW o Zc E;by_cases ZX:b<q
    ·have X9:(0:F)<=(b:F):=E;have X8:(b:F)<(q:F):=E;have R:=ab (Y7.o b);obtain⟨Yi,X4,rfl,_,_,X7⟩:=Z2.at B ZX;obtain⟨Yn,X3,rfl,_,_,X6⟩:=Z1.at B ZX;obtain⟨Zm,YZ,_⟩:=ZG.cellAt ZX;obtain⟨⟨Y4,Y3⟩,⟨Zy,Zx⟩,⟨Zw,Zv⟩,⟨ZO,ZN⟩,_⟩:=ZT.o b ZX;generalize O a b=YO at *;generalize O j b=YN at *;obtain⟨ZZ,Zr⟩:∃ZZ,i-g=ZZ:=⟨_,I⟩;rw[Zr] at Zw Zv ZO ZN R;obtain⟨K,Zt⟩:∃K,g*YO=K:=⟨_,I⟩;obtain⟨ZA,Zq⟩:∃K,ZZ*YN=K:=⟨_,I⟩;rw[Zt] at Y4 Y3 Zy Zx R;rw[Zq] at Zw Zv ZO ZN R;obtain⟨Y,Zs⟩:∃Y,K*z=Y:=⟨_,I⟩;obtain⟨ZP,Zp⟩:∃Y,ZA*y=Y:=⟨_,I⟩;rw[Zs] at Zy Zx R;rw[Zp] at ZO ZN R;have Y2:IntKind.i64.wrap (g*YO)=K:=by rw[Zt];exact bV _ E
     have Y1:IntKind.i64.wrap (K*z)=Y:=by rw[Zs];exact bV _ E
     have Y0:IntKind.i64.wrap (i-g)=ZZ:=by rw[<- Zr];exact bV _ E
     have Yh:IntKind.i64.wrap (ZZ*YN)=ZA:=by rw[Zq];exact bV _ E
     have Yg:IntKind.i64.wrap (ZA*y)=ZP:=by rw[Zp];exact bV _ E
     have Yf:IntKind.i64.wrap (Y+ZP)=Y+ZP:=bV _ E;clear Zt Zq Zs Zp;clear Zr Y4 Y3 Zy Zx Zw Zv ZO ZN;go_wp2;refine ei 28 ah ah (λ _ _ _ _ _ Yy=>Yy) ?_;refine dY ?_;repeat (first | go_big_quiet_step ((go_at_call 157;first | (with_reducible exact aQ (Y6.o _ ((Z2.below B).below (aM _ _)))) | (with_reducible exact aQ (Y5.o _ ((Z1.below B).below (aM _ _)))))) | quiet_step ((go_at_call 157;first | (with_reducible exact aQ (Y6.o _ ((Z2.below B).below (aM _ _)))) | (with_reducible exact aQ (Y5.o _ ((Z1.below B).below (aM _ _)))))))
     refine ko ?_;intro C p;have YU:=ZG.below p;replace YZ:=aB p Zm YZ;replace Zm:=ag p Zm;obtain⟨X1,YR,YL,YX⟩:=dC YU ZX (Y+ZP);have YM:=ab (eO (eO o (iC p (Z Z3))) YX);have YE:=ab YR;clear YR YX YU ZG p o;go_wp2;rw[YE.o];exact w3
    ·obtain rfl:b=q:=E;refine l5 ?_;intro e f c d;have X5:=o.size;obtain⟨Yo,Yl,Ym,YI,Yx⟩:=ZG.ints;injection YI with Y2 Y1 Y0
     subst Y2 Y1 Y0;have YH:U (∀ZW,ZW<b->0<=O (hN Z4 b b) ZW /\ O (hN Z4 b b) ZW<=4000000000000000000):= λ ZW YW=>by rw[BR _ _ _ _ aZ,a7 YW];exact Z7.o ZW YW
     clear o ZE ZD Zb Za Zd Zc G H P Q;go_wp2_with fail;refine(jl _ _ _ _ (hN Z4 b b) _ Yx ZK YH.o).mono ?_;rintro t C ⟨⟨X2,rfl,YT⟩,p⟩;obtain⟨YB,Yq,YA,rfl,Ya⟩:=YT.ints;refine h9 ?_;intro e f c d;have Yd:=au B p;clear p;go_wp2;refine aK (v:=aL #[ba #[M (bh D (hN Z4 b b)).size,aa YB Yq YA],aw (bh D (hN Z4 b b)).ok]) (by simp[aJ,results161,go_sem,c,d]) I ⟨⟨_,I,((YT.setBelow (a:=(ad ZQ 0)) (by simp;omega) _).setBelow (a:=(ad ZQ 1)) (by simp;omega) _).mono E⟩,?_⟩;exact aD
theorem tu (G k g i:F) (Z6 Z5:aG) (ZV ZM ZW ZL:J) (a j:ac) (H:af) (Z4:an H Z6 ZV a) (Z3:an H Z5 ZW j):
  bp 101 #[am G Z6 ZV ZM,am k Z5 ZW ZL,ba #[M g,M i]] H (cB G a k j g i):=by
 obtain⟨Z1,ZP⟩:∃Z1,U ((((H.alloc (al #[M G,aa Z6 ZV ZM] 29)).alloc (al #[M k,aa Z5 ZW ZL] 29)).alloc (al #[M g,M i] 55)).alloc (al #[M 0,aa aj 0 0] 29)=Z1):=⟨_,I⟩;have ZY:ap H Z1:=by rw[<- ZP.o];exact aD
 obtain⟨m,n,x,r,u,w,c,d,e,f,YP⟩:=Bi H 29 29 55 29 (M G) (aa Z6 ZV ZM) (M k) (aa Z5 ZW ZL) (M g) (M i) (M 0) (aa aj 0 0);rw[ZP.o] at m n x r u w c d e f YP;obtain⟨K,ZA⟩:∃o,U (H.heap.size+1+1+1=o):=⟨_,I⟩;obtain⟨Y7,ZB⟩:∃o,U (H.heap.size+1+1=o):=⟨_,I⟩;obtain⟨Y8,ZD⟩:∃o,U (H.heap.size+1=o):=⟨_,I⟩;rw[ZA.o] at c d e f YP;rw[ZB.o] at u w;rw[ZD.o] at x r;have X9:H.heap.size<Y8 /\ Y8<Y7 /\ Y7<K:=by rw[<- ZA.o,<- ZB.o,<- ZD.o];omega
 have YR:=Z4.below ZY;have YQ:=Z3.below ZY;cases XW:cJ G a k j
 ·have L:U (cB G a k j g i=bc.no):=by show cB G a k j g i=bc.no;unfold cB;rw[XW];rfl
  rw[L.o];go_enter func101,ntmps101;go_wp2_with fail;refine s9 ?_;rw[XW];rintro Y YN ⟨rfl,s⟩;refine m9 ?_;intro m n x r u w e f c d;have l:=au ZY s;clear s;go_wp2;refine aK (v:=aL #[am 0 aj 0 0,aw ak]) (by simp[aJ,results101,go_sem,c,d]) I ⟨b1.no _ _,?_⟩;exact aD
 ·cases P:(gY g i&&decide (i<=1000))
  ·have L:U (cB G a k j g i=bc.no):=by show cB G a k j g i=bc.no;unfold cB;rw[P];simp
   rw[L.o];go_enter func101,ntmps101;go_wp2_with fail;refine s9 ?_;rw[XW];rintro Y YN ⟨rfl,s⟩;refine m9 ?_;intro m n x r u w e f c d;have l:=au ZY s;clear s;go_wp2_with fail;refine(qD _ _ _).mono ?_;rintro Y Z8 ⟨rfl,v⟩;refine p7 ?_;intro m n x r u w;refine hF ?_;intro e f c d A;clear v;cases ZH:gY g i;all_goals
    (try (rw[ZH,eo,decide_eq_false_iff_not] at P));go_wp2;refine aK (v:=aL #[am 0 aj 0 0,aw ak]) (by simp[aJ,results101,go_sem,c,d]) I ⟨b1.no _ _,?_⟩;exact aD
  ·have L:U (cB G a k j g i=bh G (hq (ip a j g i (aW a) (aW j)) a.length)):=by rw[U];unfold cB;rw[XW,P];rfl
   rw[L.o];rw[b9,mK] at P;obtain⟨P,Zh⟩:=P;have X6:=oU P;obtain⟨ZI,Zp,Yq,ZJ⟩:=fN XW;subst Yq;obtain rfl:ZV=a.length:=Z4.len.symm;have Ys:ZW=a.length:=by rw[<- Z3.len,ZJ]
   subst Ys;obtain⟨q,ZK⟩:∃q,a.length=q:=⟨_,I⟩;obtain⟨ZH,_,YZ,Z9,YA,ZS,_⟩:=bt ZI;obtain⟨_,_,_,S,Yz,ZR,_⟩:=bt Zp;have YS:=(bt ZI).2.1;have Yr:=b8 ZH;rw[ZJ] at S;rw[ZK] at Z4 Z3 YR YQ n r YZ Z9 S L ZP YS ⊢;have X7:2<=q:=E;have Yi:=ab ZK;have Yh:U (j.length=q):=by rw[U,ZJ,ZK]
   have YE:=ab ZI;have YD:=ab Zp;have YC:=ab XW;obtain⟨y,Zt⟩:∃y,aW a=y:=⟨_,I⟩;obtain⟨z,Zs⟩:∃z,aW j=z:=⟨_,I⟩;rw[Zt] at YA ZS L ⊢;rw[Zs] at Yz ZR L ⊢;have Y5:U (∀D,an D Z6 q a->aC 76 #[am k Z6 q ZM] D (M y)):= λ D Zz=>by rw[<- Zt];exact hn _ _ _ _ a D Zz YE.o
   have Y4:U (∀D,an D Z5 q j->aC 76 #[am k Z5 q ZL] D (M z)):= λ D Zz=>by rw[<- Zs];exact hn _ _ _ _ j D Zz YD.o
   refine yO ?_;intro Z7 ZT;have YB:=ab P;have Y6:U (∀b,hq (ip a j g i y z) (b+1)=hq (ip a j g i y z) b++[g*O a b*z+(i-g)*O j b*y]):= λ b=>rfl
   obtain⟨N,YY⟩:∃Yv,ip a j g i y z=Yv:=⟨_,I⟩;rw[YY] at Y6 Z7 ⊢;clear YY L ZK ZJ ZI Zp Zt Zs Z9 S YS Yr ZH P;go_enter func101,ntmps101;go_wp2_with fail;refine s9 ?_;rw[YC.o];rintro Y YN ⟨rfl,s⟩;refine m9 ?_;intro m n x r u w e f c d;have l:=au ZY s;clear s XW;go_wp2_with fail;refine(qD _ _ _).mono ?_;rw[YB.o];rintro Y Z8 ⟨rfl,v⟩;refine p7 ?_;intro m n x r u w;refine hF ?_;intro e f c d A;clear v;have Yp:K<Z8.heap.size:=b6 c;go_wp2;obtain⟨ZU,ZG⟩:∃Z1,Z8.alloc (al #[] 3)=Z1:=⟨_,I⟩;have B:ap Z8 ZU:=by rw[<- ZG];exact az _ _
   have YU:av ZU Z8.heap.size (aq Z8.heap.size 0 0) (hq N 0):=by rw[<- ZG];exact fF _ #[] 0 aZ (by unfold maxLen;omega) I
   rw[ZG];have Zc:=ag B m;have Zb:=ag B n;have Za:=ag B x;have Y9:=ag B r;have Zg:=ag B u;have Zf:=ag B w;have Zj:=aB B c e;have Zi:=aB B d f;have Ze:=ag B c;have Zd:=ag B d;have Yt:=au A B;have Yo:=B.size;clear m n x r u w c d e f B ZG;obtain⟨R,YX⟩:∃R,Z8.heap.size=R:=⟨_,I⟩;rw[YX] at YU Yo Yp ⊢;clear YX;go_loopw [8,9] (λ YO Zk wr=>∃(b:J) (ZF:ay),b<=q /\ Zk=M b /\ YO=ZF /\ av wr R ZF (hq N b) /\ Below R ZU wr /\ ZU.heap.size<=wr.heap.size) (λ YO Zk _=>q-(intOf Zk).toNat)
   case atStart=>exact⟨0,_,E,I,I,YU,Below.refl _ _,bL _⟩
   case round =>
    obtain⟨b,ZF,X4,rfl,rfl,Zo,t,XZ⟩:=hrel;have T:ap H wr:=Yt.trans (t.mono E);have m:=dL t E Zc;have n:=dL t E Zb;have x:=dL t E Za;have r:=dL t E Y9;have u:=dL t E Zg;have w:=dL t E Zf;by_cases Zq:b<q
    ·have X3:(0:F)<=(b:F):=E;have X2:(b:F)<(q:F):=E;have W:=ab (Y6.o b);obtain⟨Yg,XY,rfl,_,_,X1⟩:=Z4.at T Zq;obtain⟨Yk,XX,rfl,_,_,X0⟩:=Z3.at T Zq;obtain⟨_,⟨ZO,ZN⟩,_,⟨Z0,ZZ⟩,⟨Y3,Y2⟩,⟨Y1,Y0⟩,Zm,Zl⟩:=ZT.o b Zq;rw[<- Zm,<- Zl] at W;rw[<- Zm] at ZO ZN;rw[<- Zl] at Z0 ZZ;clear Zm Zl;generalize O a b=YM at *;generalize O j b=YL at *;obtain⟨Z2,Zw⟩:∃Z2,i-g=Z2:=⟨_,I⟩;rw[Zw] at Z0 ZZ W;obtain⟨o,Zy⟩:∃o,YM*z=o:=⟨_,I⟩;obtain⟨ZE,Zv⟩:∃o,YL*y=o:=⟨_,I⟩;rw[Zy] at Y3 Y2 ZO ZN W;rw[Zv] at Y1 Y0 Z0 ZZ W;obtain⟨Q,Zx⟩:∃Q,o*g=Q:=⟨_,I⟩;obtain⟨ZQ,Zu⟩:∃Q,ZE*Z2=Q:=⟨_,I⟩;rw[Zx] at ZO ZN W;rw[Zu] at Z0 ZZ W;have Yf:IntKind.i64.wrap (YM*z)=o:=by rw[Zy];exact bV _ E
     have Ye:IntKind.i64.wrap (o*g)=Q:=by rw[Zx];exact bV _ E
     have Yd:IntKind.i64.wrap (i-g)=Z2:=by rw[<- Zw];exact bV _ E
     have Yc:IntKind.i64.wrap (YL*y)=ZE:=by rw[Zv];exact bV _ E
     have Yb:IntKind.i64.wrap (ZE*Z2)=ZQ:=by rw[Zu];exact bV _ E
     have Ya:IntKind.i64.wrap (Q+ZQ)=Q+ZQ:=bV _ E;clear Zy Zv Zx Zu;clear Zw Y3 Y2 ZO ZN Y1 Y0 Z0 ZZ;go_wp2;refine l7 27 _ _ ah ah I I I (λ _ _ _ _ _ Yu=>Yu) ⟨_,I⟩ ?_;refine dY ?_;repeat (first | go_big_quiet_step ((go_at_call 76;first | (with_reducible exact aQ (Y5.o _ ((Z4.below T).below (aM _ _)))) | (with_reducible exact aQ (Y4.o _ ((Z3.below T).below (aM _ _)))))) | quiet_step ((go_at_call 76;first | (with_reducible exact aQ (Y5.o _ ((Z4.below T).below (aM _ _)))) | (with_reducible exact aQ (Y4.o _ ((Z3.below T).below (aM _ _)))))))
     refine ko ?_;intro C p;have Zn:=Zo.below p;have Yn:=p.size;have YF:=ab (nB N b);go_wp2_with (at_builtin;refine iz I _ _ I R _ _ b YF.o a6 (Zn.below (az C _)) _ _ (Q+ZQ) a6 (by simp[*]) E (by simp;omega) ?_;intro Yj YJ D YI Zr);have YK:=ab (cV (B:=R) ((t.trans (p.mono E)).alloc E _) (by simp;omega) Zr (λ Yx Y=>(Zn.block Yx Y).1));have YH:ZU.heap.size<=D.heap.size:=by have:=Zr.size;simp at this;omega
     clear Zr Zo Zn T t p;go_roundw
     case rel=>exact⟨b+1,_,E,by go_num,I,by rw[W.o];exact YI,YK.o,YH⟩
     case measure=>simp[intOf];omega
    ·obtain rfl:b=q:=E;have e: wr.frozen? (ad K 0)=ak:=(t.frozen (p:=(ad K 0)) (by show K<R;omega)).trans Zj;have f: wr.frozen? (ad K 1)=ak:=(t.frozen (p:=(ad K 1)) (by show K<R;omega)).trans Zi;have c:=dL t E Ze;have d:=dL t E Zd;obtain⟨Yl,V,YJ,rfl,YW⟩:=Zo.ints;obtain rfl:V=b:=by rw[<- YW.len];exact nB N b
     have YG:U (∀ZX,ZX<V->0<=O (hq N V) ZX /\ O (hq N V) ZX<=4000000000000000000):= λ ZX YV=>by rw[BS,a7 YV];exact Z7.o ZX YV
     clear Zc Zb Za Y9 Zg Zf Ze Zd Zj Zi;go_wp2_with fail;refine(hk _ _ _ _ (hq N V) _ YW YZ YG.o).mono ?_;rintro Y C ⟨⟨ZF,rfl,YT⟩,p⟩;obtain⟨Yy,Ym,Yw,rfl,X5⟩:=YT.ints;refine h9 ?_;intro e f c d;have X8:=au T p;have Yn:=p.size;clear p;go_wp2;refine aK (v:=aL #[ba #[M (bh k (hq N V)).size,aa Yy Ym Yw],aw (bh k (hq N V)).ok]) (by simp[aJ,results101,go_sem,c,d]) I ⟨⟨_,I,((YT.setBelow (a:=(ad K 0)) (by simp;omega) _).setBelow (a:=(ad K 1)) (by simp;omega) _).mono E⟩,?_⟩;exact aD
structure dU (N:J) (fl:J->J->F) (lf:J->F) (pf pt:ac) (rk ro:J->J):Prop where
 h16:N<=16
 lnF:pf.length=N
 lnT:pt.length=N
 f:∀b,b<N->(O pf b=100 /\ 0<lf b) \/ (O pf b=0 /\ ¬0<lf b) \/ ∃c:J,c<N /\ O pf b=(c:F)+1 /\ 0<fl b c /\ 0<O pt c
 t:∀a,a<N->O pt a=0 \/ ∃b:J,b<N /\ O pt a=(b:F)+1 /\ bY a b=ae /\ ((O pf b=100 /\ ro a=b) \/ ∃c:J,c<N /\ O pf b=(c:F)+1 /\ rk c<rk a /\ ro c=ro a)
theorem dU.start {a:J} (j:J->J->F) {e:J->F} {f g:ac} (l:a<=16) (k:f.length=a) (m:g.length=a) (h:∀b,b<a->O f b=if 0<e b then 100 else 0) (i:∀c,c<a->O g c=0):dU a j e f g (λ _=>0) (λ _=>0):=by
 refine⟨l,k,m,λ b o=>?_,λ c n=>Or.inl (i c n)⟩;rw[h b o];by_cases d:0<e b
 ·rw[a7 d];exact Or.inl ⟨I,d⟩
 ·rw[aF d];exact Or.inr (Or.inl ⟨I,d⟩)
theorem dU.bdF {c:J} {f:J->J->F} {h:J->F} {b i:ac} {j k:J->J} (d:dU c f h b i j k) {a:J} (g:a<c):0<=O b a /\ O b a<=100:=by
 have n:=d.h16;rcases d.f a g with e | e | ⟨l,e,m,_⟩<;>omega
theorem dU.bdT {c:J} {e:J->J->F} {h:J->F} {i b:ac} {j k:J->J} (d:dU c e h i b j k) {a:J} (g:a<c):0<=O b a /\ O b a<=16:=by
 have n:=d.h16;rcases d.t a g with f | ⟨l,f,m,_⟩<;>omega
theorem dU.of {c:J} {d:J->J->F} {m:J->F} {g h:ac} {n o:J->J} (e:dU c d m g h n o) {b a:J} (l:b<c) (s:a<c) (p:O g b=(a:F)+1):0<d b a /\ 0<O h a:=by
 have r:=e.h16;rcases e.f b l with ⟨f,_⟩ | ⟨f,_⟩ | ⟨i,f,q,j,k⟩
 ·omega
 ·omega
 ·obtain rfl:i=a:=E;exact⟨j,k⟩
theorem dU.getter {n:J} {x:J->J->F} {z:J->F} {h i:ac} {r s:J->J} (g:dU n x z h i r s) {d a:J} (P:d<n) (y:a<n) (Q:bY d a=ae) (S:0<O h a) (T:O i d=0):
  ∃B C,dU n x z h (i.set d ((a:F)+1)) B C:=by
 have N:=g.h16;have w:O (i.set d ((a:F)+1)) d=(a:F)+1:=by rw[cO,a7 ⟨rfl,by rw[g.lnT];exact P⟩]
 have v:∀c,c≠d->O (i.set d ((a:F)+1)) c=O i c:= λ c q=>by rw[cO,aF λ e=>q e.1.symm]
 have R:∀b,0<O i b->0<O (i.set d ((a:F)+1)) b:= λ b k=>by
  by_cases e:b=d
  ·rw[e,w];omega
  ·rw[v b e];exact k
 refine⟨λ c=>if c=d then r (O h a-1).toNat +1 else r c,λ c=>if c=d then (if O h a=100 then a else s (O h a-1).toNat) else s c,N,g.lnF,by rw[iu];exact g.lnT,λ p A=>?_,λ c q=>?_⟩
 ·rcases g.f p A with f | f | ⟨b,l,j,o,m⟩
  ·exact Or.inl f
  ·exact Or.inr (Or.inl f)
  ·exact Or.inr (Or.inr ⟨b,l,j,o,R b m⟩)
 ·by_cases e:c=d
  ·subst e;refine Or.inr ⟨a,y,w,Q,?_⟩;rcases g.f a y with ⟨f,_⟩ | ⟨f,_⟩ | ⟨b,l,j,o,m⟩
   ·exact Or.inl ⟨f,by rw[a7 rfl,a7 f]⟩
   ·omega
   ·have L:¬O h a=100:=E;have k:b≠c:=by intro e;rw[e] at m;omega
    have u:(O h a-1).toNat=b:=by rw[j];omega
    exact Or.inr ⟨b,l,j,by rw[aF k,a7 rfl,u];omega,by rw[aF k,a7 rfl,aF L,u]⟩
  ·rw[v c e];rcases g.t c q with f | ⟨p,t,D,G,H⟩
   ·exact Or.inl f
   ·refine Or.inr ⟨p,t,D,G,?_⟩;rcases H with ⟨f,M⟩ | ⟨b,l,j,o,m⟩
    ·exact Or.inl ⟨f,by rw[aF e];exact M⟩
    ·have k:b≠d:=by
      intro K;have U:=(g.of t l j).2;rw[K] at U;omega
     exact Or.inr ⟨b,l,j,by rw[aF k,aF e];exact o,by rw[aF k,aF e];exact m⟩
theorem dU.giver {h:J} {j:J->J->F} {o:J->F} {g l:ac} {p q:J->J} (e:dU h j o g l p q) {b a:J} (y:b<h) (z:a<h) (w:0<O l b) (G:O g a=0) (A:0<j a b):
  dU h j o (g.set a ((b:F)+1)) l p q:=by
 have x:=e.h16;have v:O (g.set a ((b:F)+1)) a=(b:F)+1:=by rw[cO,a7 ⟨rfl,by rw[e.lnF];exact z⟩]
 have m:∀f,f≠a->O (g.set a ((b:F)+1)) f=O g f:= λ f k=>by rw[cO,aF λ d=>k d.1.symm]
 refine⟨x,by rw[iu];exact e.lnF,e.lnT,λ c r=>?_,λ f k=>?_⟩
 ·by_cases d:c=a
  ·subst d;exact Or.inr (Or.inr ⟨b,y,v,A,w⟩)
  ·rw[m c d];exact e.f c r
 ·rcases e.t f k with n | ⟨c,s,t,u,i⟩
  ·exact Or.inl n
  ·have B:c≠a:=by
    intro d;rw[d] at i;rcases i with ⟨n,_⟩ | ⟨C,D,E,_⟩<;>omega
   exact Or.inr ⟨c,s,t,u,by rw[m c B];exact i⟩
theorem dU.next {e:J} {m:J->J->F} {o:J->F} {k i:ac} {l j:J->J} (d:dU e m o k i l j) {c:J} (w:c<e) (x:0<O i c):
  ∃a:J,a<e /\ O i c=(a:F)+1 /\ bY c a=ae /\ ((O k a=100 /\ j c=a /\ 0<o a) \/ ∃b:J,b<e /\ O k a=(b:F)+1 /\ l b<l c /\ j b=j c /\ 0<O i b /\ 0<m a b):=by
 have z:=d.h16;rcases d.t c w with y | ⟨a,f,p,q,r⟩
 ·omega
 ·refine⟨a,f,p,q,?_⟩;rcases r with ⟨u,v⟩ | ⟨b,g,h,s,t⟩
  ·refine Or.inl ⟨u,v,?_⟩;rcases d.f a f with ⟨_,n⟩ | ⟨n,_⟩ | ⟨b,g,h,_⟩
   ·exact n
   ·omega
   ·omega
  ·exact Or.inr ⟨b,g,h,s,t,(d.of f g h).2,(d.of f g h).1⟩
theorem dU.root {c:J} {n:J->J->F} {v:J->F} {e f:ac} {g d:J->J} (o:dU c n v e f g d):∀(b a:J),g a<b->a<c->0<O f a->O e (d a)=100 /\ d a<c:=by
 intro b;induction b with
 | zero=>intro a t;omega
 | succ b u =>
  intro a t s p
  obtain⟨w,h,x,y,i⟩:=o.next s p
  rcases i with ⟨q,r,_⟩ | ⟨j,k,z,A,l,m,_⟩
  ·rw[r];exact⟨q,h⟩
  ·rw[<- l];exact u j E k m
def kS (b:ac) (d:J->J) (c:J) (a:J):F:=if 0<O b a /\ d a=c then O b a-1 else -1
def lR (b:ac) (a:J):F:=O b a-1
theorem nP {c:ac} {e:J->J} {d a b:J} (g:O c a=(b:F)+1) (f:e a=d):kS c e d a=(b:F):=by unfold kS;rw[a7 ⟨E,f⟩];omega
theorem uX {c:ac} {a b:J} (d:O c a=(b:F)+1):lR c a=(b:F):=by unfold lR;omega
theorem dU.way {f:J} {h:J->J->F} {A:J->F} {k c:ac} {l e:J->J} (i:dU f h A k c l e) (d:J):gd bY f d h (kS c e d) (lR k) l:=by
 intro a y j;have b:0<O c a /\ e a=d:=by
  unfold kS at j;by_cases g:0<O c a /\ e a=d
  ·exact g
  ·rw[aF g] at j;omega
 obtain⟨B,m,n,o,p⟩:=i.next y b.1;rw[nP n b.2];simp only[cI];refine⟨m,E,o,λ z=>?_⟩;rcases p with ⟨_,x,_⟩ | ⟨C,q,r,s,t,u,v⟩
 ·exact bC (x.symm.trans b.2) z
 ·rw[uX r];simp only[cI];obtain⟨D,G,w,_⟩:=i.next q u;exact⟨E,E,by rw[nP w (t.trans b.2)];omega,v,s⟩
def iw (e:J->J->F) (c d:ac) (b a:J):Prop:=(bY a b=ae->0<O c b->0<O d a) /\ (0<O d a->0<e b a->0<O c b)
theorem dU.stuck {c:J} {n:J->J->F} {k j g l:J->F} {s h:ac} {C D:J->J} (o:dU c n g s h C D) (q:dV bY c k j n g l) (A:bu k c=bu j c) (t:∀b a,b<c->a<c->iw n s h b a) (v:∀a,a<c->0<O h a->l a=0) {m:J} (w:m<c) (G:0<l m):¬jb bY c k j:=by
 have f:∃i,i<c /\ 0<g i:=by
  refine jJ λ y=>?_
  have p:=KA q A (λ b d=>by
   have:=q.lf0 b d;have:¬0<g b:= λ o=>y ⟨b,d,o⟩
   omega) m w
  omega
 obtain⟨i,f,z⟩:=f;refine Go.Proofs.YtkjnhlpccgjfhaaGreatDoor.bw q (λ b=>decide (0<O s b)) (λ a=>decide (0<O h a)) (λ b a d e u B=>?_) (λ b a d e r x=>?_) (λ a e r=>v a e (n3 r)) f (fW ?_) z
 ·exact fW ((t b a d e).1 B (n3 u))
 ·exact fW ((t b a d e).2 (n3 r) x)
 ·rcases o.f i f with ⟨p,_⟩ | ⟨_,p⟩ | ⟨E,_,p,_⟩<;>omega
def dS (a:ac):J:=(a.filter λ b=>decide (b=0)).length
theorem uH:∀(a:ac) (b:J) (c:F),b<a.length->O a b=0->c≠0->dS (a.set b c)+1=dS a
 | [],b,c,e,_,_=>by simp at e
 | h::a,0,c,_,f,g=>by
  have i:h=0:=by simpa [O] using f
  simp[dS,i,g]
 | h::a,b+1,c,e,f,g=>by
  have d:=uH a b c (by simpa using e) (by simpa [O] using f) g;unfold dS at d ⊢;exact yf
def gU (a:J) (d:ac) (e:J->J->F):Prop:=d.length=a*a /\ ∀c b,c<a->b<a->O d (a*c+b)=e c b
theorem uZ {a c b:J} (d:b<a) (e:c<a):a*b+c<a*a:=by
 have:a*(b+1)<=a*a:=Nat.mul_le_mul_left a d;rw[Nat.mul_add] at this;omega
theorem Nz {a d b c e:J} (j:d<a) (k:e<a) (f:a*b+d=a*c+e):b=c /\ d=e:=by
 have g:(a*b+d)/a=b:=by rw[Nat.mul_add_div E,Nat.div_eq_of_lt j];rfl
 have h:(a*c+e)/a=c:=by rw[Nat.mul_add_div E,Nat.div_eq_of_lt k];rfl
 have i:b=c:=by rw[<- g,<- h,f]
 subst i;exact⟨I,E⟩
theorem gU.set {a:J} {i:ac} {k:J->J->F} (f:gU a i k) {b c:J} (s:b<a) (l:c<a) (m:F):gU a (i.set (a*b+c) m) (hU k b c m):=by
 refine⟨by rw[iu];exact f.1,λ e g n h=>?_⟩;rw[cO];by_cases d:e=b /\ g=c
 ·rw[d.1,d.2,a7 ⟨rfl,by rw[f.1];exact uZ s l⟩,kA]
 ·rw[aF λ o=>d (by obtain⟨q,r⟩:=Nz l h o.1;exact⟨q.symm,r.symm⟩),f.2 e g n h,gp _ (by by_cases j:e=b;exact Or.inr λ p=>d ⟨j,p⟩;exact Or.inl j)]
theorem gU.zero (a:J):gU a (bE (a*a) 0) (λ _ _=>0):=by
 refine⟨List.length_replicate,λ e d c b=>?_⟩;rw[cK _ _ (by rw[List.length_replicate];exact uZ c b),List.getElem_replicate]
def jM (e:J) (b:J->J->F) (d c:J->F) (g:J) (h:F) (f:J):Prop:=∀a,a<=h->eZ e b d c a f->eZ e b d c a g
theorem jM.start (g:J) (b:J->J->F) (d c:J->F) (a:J) (f:F):jM g b d c a f a:= λ _ _ e=>e
theorem jM.step {i:J} {e:J->J->F} {g f:J->F} {j c b a:J} {l h:F} (n:jM i e g f j l c) (d:g c=(b:F)) (p:b≠i) (k:f b=(a:F)) (r:h<=l) (q:h<=e b a):jM i e g f j h a:=by
 intro m s o;refine n m E (.step c (by rw[d];simpa using p) ?_ ?_)
 ·rw[d];simp only[cI];rw[k];simp only[cI];omega
 ·rw[d];simp only[cI];rw[k];simp only[cI];exact o
theorem jM.stop {d:J} {f:J->J->F} {b g:J->F} {e a:J} {h c:F} (j:jM d f b g e h a) (i:b a=(d:F)) (k:c<=h):eZ d f b g c e:=j c k (.stop a (by rw[i];simp))
def je (c k h:J) (i:J->J->F) (e j:J->F) (f:F) (b a:J) (g:ac):Prop:=∃d,jd bY c k h i e j f b d /\ e b=(a:F) /\ a<c /\ gU c g (hU d a b (d a b+f))
theorem je.start {b l a c:J} {n m s o:J->F} {d:J->J->F} {f j:J->F} {i:F} {e:ac} (q:dV bY b n m d s o) (r:eZ l d f j i a) (h:a<b) (k:gU b e d) (g:c<b) (p:f a=(c:F)):
  je b l a d f j i a c (e.set (b*c+a) (O e (b*c+a)+i)) :=
 ⟨d,jd.init q r h E,p,g,by rw[k.2 c a g h];exact k.set g h _⟩
theorem je.step {c j o b a f n:J} {k:J->J->F} {i h:J->F} {m:J->J} {d:F} {e:ac} (x:je c j o k i h d n b e) (B:gd bY c j k i h m) (A:0<=d) (z:b≠j) (v:h b=(a:F)) (w:i a=(f:F)) (l:f<c):
  a<c /\ m a<m n /\ d<=O e (c*b+a) /\ je c j o k i h d a f ((e.set (c*b+a) (O e (c*b+a)-d)).set (c*f+a) (O (e.set (c*b+a) (O e (c*b+a)-d)) (c*f+a)+d)):=by
 obtain⟨p,y,u,H,q⟩:=x;obtain⟨s,g,C,D,E,G⟩:=y.step B A u z v;have t:O e (c*b+a)=p b a:=by rw[q.2 b a s g,gp _ (Or.inr C)]
 have r:=q.set s g (p b a-d);rw[t];refine⟨g,E,D,_,G,w,l,?_⟩;rw[r.2 f a l g];exact r.set l g _
theorem je.last {b c h r:J} {o m g f lf' du':J->F} {i:J->J->F} {q p:J->F} {D:J->J} {a:F} {n:ac} (v:je b c h i q p a r c n) (w:dV bY b o m i g f) (C:gd bY b c i q p D) (z:0<=a) (B:a<=g c) (A:a<=f h)
  (u:∀e,lf' e=if e=c then g e-a else g e) (t:∀d,du' d=if d=h then f d-a else f d):∃k,dV bY b o m k lf' du' /\ gU b n k:=by
 obtain⟨E,x,s,_,y⟩:=v;exact⟨_,(x.last w C z s B A u t).2,y⟩
theorem je.bd {c G v e j:J} {n s E u:J->F} {p:J->J->F} {y x:J->F} {m h:F} {i:ac} (z:je c G v p y x m j e i) (q:dV bY c n s p E u) (A:∀e,e<c->n e<=h) (Q:0<=m) {a b:J} (d:a<c) (f:b<c):0<=O i (c*a+b) /\ O i (c*a+b)<=h+m:=by
 obtain⟨l,g,H,C,D⟩:=z;have r:∀a b,a<c->b<c->0<=l a b /\ l a b<=h:= λ a b d f=>by
  have I:=g.nn a b d f;have K:=oH (f:=l a) (λ t B=>g.nn a t d B) f;have L:=g.row a d;have M:=q.row a d;have N:=q.lf0 a d;have P:=A a d;omega
 rw[D.2 a b d f];by_cases k:a=e /\ b=j
 ·rw[k.1,k.2,kA];have:=r e j C g.cur0.1;omega
 ·rw[gp _ (by by_cases o:a=e;exact Or.inr λ w=>k ⟨o,w⟩;exact Or.inl o)];have:=r a b d f;omega
theorem gU.bd {b:J} {j l r n:J->F} {g:J->J->F} {i:F} {f:ac} (q:gU b f g) (e:dV bY b j l g r n) (o:∀k,k<b->j k<=i) {a d:J} (c:a<b) (h:d<b):0<=O f (b*a+d) /\ O f (b*a+d)<=i:=by
 rw[q.2 a d c h];have s:=e.nn a d c h;have t:=oH (f:=g a) (λ m p=>e.nn a m c p) h;have u:=e.row a c;have v:=e.lf0 a c;have w:=o a c;omega
def g6 (a:a8):ac:=if a then [0,1,0,1] else [0,0,1,1]
def cU (c:a8) (a:F) (b:ac):bc:=if aI a b&&(a==2) then fa a b (g6 c) 4 else bc.no
theorem AL {d:a8} {b:F} {c:ac} (a:aI b c=ak \/ b≠2):cU d b c=bc.no:=by
 rcases a with a | a<;>simp[cU,a]
theorem Bj {second:a8} {a:F} {b:ac} (c:aI a b=ae) (d:a=2):cU second a b=fa a b (g6 second) 4:=by
 subst d;unfold cU;rw[c];rfl
theorem qq (a:F) (d:aG) (e f:J) (c:ac) (b:af) (j:an b d e c):
  aC 343 #[am a d e f] b (aw (aI a c&&(a==2))):=by
 go_enter func343,ntmps343;go_wp2_with fail;refine(dA _ _ _ _ _ _ (j.below (az b _))).mono ?_;rintro k n ⟨rfl,o⟩;obtain⟨l,m,g⟩:=dZ o;cases i:aI a c;all_goals
  go_wp2;go_ret;exact⟨ct (by simp[i]),g⟩
theorem qy (b:a8) (a:af):
  aY prog 287 #[aw b] a λ d c=>d=aV (aq a.heap.size 4 4) /\ an c (Z (ad a.heap.size 0)) 4 (g6 b) /\ ap a c:=by
 cases b;all_goals
  go_enter func287,ntmps287;go_wp2;go_ret;exact⟨I,kH _ _ _ _ _ _ I I I aX,az a _⟩
theorem zP (b:F) (z:aG) (B C:J) (g:ac) (a:af) (o:an a z B g):
  bp 230 #[am b z B C] a (cU ak b g):=by
 have E:=o.below (w':=(a.alloc (al #[M b,aa z B C] 29)).alloc (al #[M 0,aa aj 0 0] 29)) ((az a _).alloc ar _);by_cases m:aI b g=ae /\ b=2
 ·obtain⟨D,A⟩:=m;have H:=ab (Bj (second:=ak) D A);rw[H.o];subst A;go_enter func230,ntmps230;go_wp2_with fail;refine(cn _ _ _ _ _ _ E).mono ?_;refine dP ?_;intro j i c d e f l;have K:=aS i a.heap.size 0 (M 2);have N:=aS i a.heap.size 1 (aa z B C);refine k6 ?_;intro u k;clear i;go_wp2_with fail;refine(zZ _ _ _ _ _ _ _ _ _ (g6 ak) _ (k.below (az _ _)) (kH _ _ _ _ _ _ I I I aX)).mono ?_;refine qe ?_;intro y s x t q r w p e f c d v;go_wp2;refine aK (by simp[aJ,results230,go_sem,c,d]) I ⟨⟨_,I,((q.setBelow (by simp;omega) _).setBelow (by simp;omega) _).mono (by simp;omega)⟩,?_⟩;exact bB
 ·have G:aI b g=ak \/ (aI b g=ae /\ b≠2):=by
   exact pK
  rw[AL (G.imp id And.right)]
  clear m
  rcases G with D | ⟨D,A⟩
  ·go_enter func230,ntmps230;go_wp2_with fail;refine(cn _ _ _ _ _ _ E).mono ?_;refine dP ?_;intro j i c d e f l;exact wV
  ·have O:(b != 2)=ae:=by simpa using A
   go_enter func230,ntmps230;go_wp2_with fail;refine(cn _ _ _ _ _ _ E).mono ?_;refine dP ?_;intro j i c d e f l;have K:=aS i a.heap.size 0 (M b);exact wV
theorem zD (g:F) (q:aG) (m r:J) (p:ac) (a:af) (o:an a q m p):
  bp 288 #[am g q m r] a (cU ak g p):=by
 have z:=o.below (w':=(a.alloc (al #[M g,aa q m r] 29)).alloc (al #[M 0,aa aj 0 0] 29)) ((az a _).alloc ar _);cases w:(aI g p&&(g==2))
 ·have x:U (cU ak g p=bc.no):=by show cU ak g p=_;unfold cU;rw[w];rfl
  rw[x.o];go_enter func288,ntmps288;go_wp2_with fail;refine(qq _ _ _ _ _ _ z).mono ?_;rw[w];refine dP ?_;intro j i c d e f l;clear i;go_wp2;refine aK (v:=aL #[am 0 aj 0 0,aw ak]) (by simp[aJ,results288,go_sem,c,d]) I ⟨?_,?_⟩
  ·exact b1.no _ _
  ·exact bB
 ·have x:U (cU ak g p=fa g p (g6 ak) 4):=by show cU ak g p=_;unfold cU;rw[w];rfl
  rw[x.o];go_enter func288,ntmps288;go_wp2_with fail;refine(qq _ _ _ _ _ _ z).mono ?_;rw[w];refine dP ?_;intro j i c d e f l;refine fg ?_;intro s t;refine k6 ?_;intro u k;clear i;go_wp2;go_region_with (first | (go_at_call 287;refine(qy _ _).mono ?_;rintro n P ⟨rfl,C,A⟩;have b:=au (bI j) A;have s:=ag b s;have t:=ag b t;have e:=aB b c e;have f:=aB b d f;have c:=ag b c;have d:=ag b d) | (go_at_call 344;refine(zz _ _ _ _ _ _ _ _ _ (g6 ak) _ (k.below b) C rfl).mono ?_;rintro n Q ⟨⟨O,rfl,y⟩,v⟩;obtain⟨D,N,G,rfl,K⟩:=y.ints;have B:=au b v;have e:=aB v c e;have f:=aB v d f;have c:=ag v c;have d:=ag v d));all_goals
   have H:=au l B;have L:=b.size;go_wp2;refine aK (by simp[aJ,results288,go_sem,c,d]) I ⟨⟨_,I,((y.setBelow (by simp;omega) _).setBelow (by simp;omega) _).mono E⟩,?_⟩;exact bB
theorem E1 (b:F) (z:aG) (B C:J) (g:ac) (a:af) (o:an a z B g):
  bp 231 #[am b z B C] a (cU ae b g):=by
 have E:=o.below (w':=(a.alloc (al #[M b,aa z B C] 29)).alloc (al #[M 0,aa aj 0 0] 29)) ((az a _).alloc ar _);by_cases m:aI b g=ae /\ b=2
 ·obtain⟨D,A⟩:=m;have H:=ab (Bj (second:=ae) D A);rw[H.o];subst A;go_enter func231,ntmps231;go_wp2_with fail;refine(cn _ _ _ _ _ _ E).mono ?_;refine dP ?_;intro j i c d e f l;have K:=aS i a.heap.size 0 (M 2);have N:=aS i a.heap.size 1 (aa z B C);refine k6 ?_;intro u k;clear i;go_wp2_with fail;refine(zZ _ _ _ _ _ _ _ _ _ (g6 ae) _ (k.below (az _ _)) (kH _ _ _ _ _ _ I I I aX)).mono ?_;refine qe ?_;intro y s x t q r w p e f c d v;go_wp2;refine aK (by simp[aJ,results231,go_sem,c,d]) I ⟨⟨_,I,((q.setBelow (by simp;omega) _).setBelow (by simp;omega) _).mono (by simp;omega)⟩,?_⟩;exact bB
 ·have G:aI b g=ak \/ (aI b g=ae /\ b≠2):=by
   exact pK
  rw[AL (G.imp id And.right)]
  clear m
  rcases G with D | ⟨D,A⟩
  ·go_enter func231,ntmps231;go_wp2_with fail;refine(cn _ _ _ _ _ _ E).mono ?_;refine dP ?_;intro j i c d e f l;exact vz
  ·have O:(b != 2)=ae:=by simpa using A
   go_enter func231,ntmps231;go_wp2_with fail;refine(cn _ _ _ _ _ _ E).mono ?_;refine dP ?_;intro j i c d e f l;have K:=aS i a.heap.size 0 (M b);exact vz
theorem DS (g:F) (q:aG) (m r:J) (p:ac) (a:af) (o:an a q m p):
  bp 289 #[am g q m r] a (cU ae g p):=by
 have z:=o.below (w':=(a.alloc (al #[M g,aa q m r] 29)).alloc (al #[M 0,aa aj 0 0] 29)) ((az a _).alloc ar _);cases w:(aI g p&&(g==2))
 ·have x:U (cU ae g p=bc.no):=by show cU ae g p=_;unfold cU;rw[w];rfl
  rw[x.o];go_enter func289,ntmps289;go_wp2_with fail;refine(qq _ _ _ _ _ _ z).mono ?_;rw[w];refine dP ?_;intro j i c d e f l;clear i;go_wp2;refine aK (v:=aL #[am 0 aj 0 0,aw ak]) (by simp[aJ,results289,go_sem,c,d]) I ⟨?_,?_⟩
  ·exact b1.no _ _
  ·exact bB
 ·have x:U (cU ae g p=fa g p (g6 ae) 4):=by show cU ae g p=_;unfold cU;rw[w];rfl
  rw[x.o];go_enter func289,ntmps289;go_wp2_with fail;refine(qq _ _ _ _ _ _ z).mono ?_;rw[w];refine dP ?_;intro j i c d e f l;refine fg ?_;intro s t;refine k6 ?_;intro u k;clear i;go_wp2;go_region_with (first | (go_at_call 287;refine(qy _ _).mono ?_;rintro n P ⟨rfl,C,A⟩;have b:=au (bI j) A;have s:=ag b s;have t:=ag b t;have e:=aB b c e;have f:=aB b d f;have c:=ag b c;have d:=ag b d) | (go_at_call 344;refine(zz _ _ _ _ _ _ _ _ _ (g6 ae) _ (k.below b) C rfl).mono ?_;rintro n Q ⟨⟨O,rfl,y⟩,v⟩;obtain⟨D,N,G,rfl,K⟩:=y.ints;have B:=au b v;have e:=aB v c e;have f:=aB v d f;have c:=ag v c;have d:=ag v d));all_goals
   have H:=au l B;have L:=b.size;go_wp2;refine aK (by simp[aJ,results289,go_sem,c,d]) I ⟨⟨_,I,((y.setBelow (by simp;omega) _).setBelow (by simp;omega) _).mono E⟩,?_⟩;exact bB
def cf (c:a8) (a:F) (b:ac):bc:=if aI a b&&(a==4) then fb a b (g6 c) 2 else bc.no
theorem BU {d:a8} {b:F} {c:ac} (a:aI b c=ak \/ b≠4):cf d b c=bc.no:=by
 rcases a with a | a<;>simp[cf,a]
theorem CI {second:a8} {a:F} {b:ac} (c:aI a b=ae) (d:a=4):cf second a b=fb a b (g6 second) 2:=by
 subst d;unfold cf;rw[c];rfl
theorem AM (b:F) (z:aG) (B C:J) (g:ac) (a:af) (o:an a z B g):
  bp 133 #[am b z B C] a (cf ak b g):=by
 have E:=o.below (w':=(a.alloc (al #[M b,aa z B C] 29)).alloc (al #[M 0,aa aj 0 0] 29)) ((az a _).alloc ar _);by_cases m:aI b g=ae /\ b=4
 ·obtain⟨D,A⟩:=m;have H:=ab (CI (second:=ak) D A);rw[H.o];subst A;go_enter func133,ntmps133;go_wp2_with fail;refine(cn _ _ _ _ _ _ E).mono ?_;refine dP ?_;intro j i c d e f l;have K:=aS i a.heap.size 0 (M 4);have N:=aS i a.heap.size 1 (aa z B C);refine k6 ?_;intro u k;clear i;go_wp2_with fail;refine(zT _ _ _ _ _ _ _ _ _ (g6 ak) _ (k.below (az _ _)) (kH _ _ _ _ _ _ I I I aX)).mono ?_;refine qe ?_;intro y s x t q r w p e f c d v;go_wp2;refine aK (by simp[aJ,results133,go_sem,c,d]) I ⟨⟨_,I,((q.setBelow (by simp;omega) _).setBelow (by simp;omega) _).mono (by simp;omega)⟩,?_⟩;exact bB
 ·have G:aI b g=ak \/ (aI b g=ae /\ b≠4):=by
   exact pK
  rw[BU (G.imp id And.right)]
  clear m
  rcases G with D | ⟨D,A⟩
  ·go_enter func133,ntmps133;go_wp2_with fail;refine(cn _ _ _ _ _ _ E).mono ?_;refine dP ?_;intro j i c d e f l;exact vJ
  ·have O:(b != 4)=ae:=by simpa using A
   go_enter func133,ntmps133;go_wp2_with fail;refine(cn _ _ _ _ _ _ E).mono ?_;refine dP ?_;intro j i c d e f l;have K:=aS i a.heap.size 0 (M b);exact vJ
theorem zQ (g:F) (q:aG) (m r:J) (p:ac) (a:af) (o:an a q m p):
  bp 175 #[am g q m r] a (cf ak g p):=by
 have z:=o.below (w':=(a.alloc (al #[M g,aa q m r] 29)).alloc (al #[M 0,aa aj 0 0] 29)) ((az a _).alloc ar _);cases w:(aI g p&&(g==4))
 ·have x:U (cf ak g p=bc.no):=by show cf ak g p=_;unfold cf;rw[w];rfl
  rw[x.o];go_enter func175,ntmps175;go_wp2_with fail;refine(nj _ _ _ _ _ _ z).mono ?_;rw[w];refine dP ?_;intro j i c d e f l;clear i;go_wp2;refine aK (v:=aL #[am 0 aj 0 0,aw ak]) (by simp[aJ,results175,go_sem,c,d]) I ⟨?_,?_⟩
  ·exact b1.no _ _
  ·exact bB
 ·have x:U (cf ak g p=fb g p (g6 ak) 2):=by show cf ak g p=_;unfold cf;rw[w];rfl
  rw[x.o];go_enter func175,ntmps175;go_wp2_with fail;refine(nj _ _ _ _ _ _ z).mono ?_;rw[w];refine dP ?_;intro j i c d e f l;refine fg ?_;intro s t;refine k6 ?_;intro u k;clear i;go_wp2;go_region_with (first | (go_at_call 287;refine(qy _ _).mono ?_;rintro n P ⟨rfl,C,A⟩;have b:=au (bI j) A;have s:=ag b s;have t:=ag b t;have e:=aB b c e;have f:=aB b d f;have c:=ag b c;have d:=ag b d) | (go_at_call 286;refine(zC _ _ _ _ _ _ _ _ _ (g6 ak) _ (k.below b) C rfl).mono ?_;rintro n Q ⟨⟨O,rfl,y⟩,v⟩;obtain⟨D,N,G,rfl,K⟩:=y.ints;have B:=au b v;have e:=aB v c e;have f:=aB v d f;have c:=ag v c;have d:=ag v d));all_goals
   have H:=au l B;have L:=b.size;go_wp2;refine aK (by simp[aJ,results175,go_sem,c,d]) I ⟨⟨_,I,((y.setBelow (by simp;omega) _).setBelow (by simp;omega) _).mono E⟩,?_⟩;exact bB
theorem tG (b:F) (z:aG) (B C:J) (g:ac) (a:af) (o:an a z B g):
  bp 134 #[am b z B C] a (cf ae b g):=by
 have E:=o.below (w':=(a.alloc (al #[M b,aa z B C] 29)).alloc (al #[M 0,aa aj 0 0] 29)) ((az a _).alloc ar _);by_cases m:aI b g=ae /\ b=4
 ·obtain⟨D,A⟩:=m;have H:=ab (CI (second:=ae) D A);rw[H.o];subst A;go_enter func134,ntmps134;go_wp2_with fail;refine(cn _ _ _ _ _ _ E).mono ?_;refine dP ?_;intro j i c d e f l;have K:=aS i a.heap.size 0 (M 4);have N:=aS i a.heap.size 1 (aa z B C);refine k6 ?_;intro u k;clear i;go_wp2_with fail;refine(zT _ _ _ _ _ _ _ _ _ (g6 ae) _ (k.below (az _ _)) (kH _ _ _ _ _ _ I I I aX)).mono ?_;refine qe ?_;intro y s x t q r w p e f c d v;go_wp2;refine aK (by simp[aJ,results134,go_sem,c,d]) I ⟨⟨_,I,((q.setBelow (by simp;omega) _).setBelow (by simp;omega) _).mono (by simp;omega)⟩,?_⟩;exact bB
 ·have G:aI b g=ak \/ (aI b g=ae /\ b≠4):=by
   exact pK
  rw[BU (G.imp id And.right)]
  clear m
  rcases G with D | ⟨D,A⟩
  ·go_enter func134,ntmps134;go_wp2_with fail;refine(cn _ _ _ _ _ _ E).mono ?_;refine dP ?_;intro j i c d e f l;exact vy
  ·have O:(b != 4)=ae:=by simpa using A
   go_enter func134,ntmps134;go_wp2_with fail;refine(cn _ _ _ _ _ _ E).mono ?_;refine dP ?_;intro j i c d e f l;have K:=aS i a.heap.size 0 (M b);exact vy
theorem tn (g:F) (q:aG) (m r:J) (p:ac) (a:af) (o:an a q m p):
  bp 176 #[am g q m r] a (cf ae g p):=by
 have z:=o.below (w':=(a.alloc (al #[M g,aa q m r] 29)).alloc (al #[M 0,aa aj 0 0] 29)) ((az a _).alloc ar _);cases w:(aI g p&&(g==4))
 ·have x:U (cf ae g p=bc.no):=by show cf ae g p=_;unfold cf;rw[w];rfl
  rw[x.o];go_enter func176,ntmps176;go_wp2_with fail;refine(nj _ _ _ _ _ _ z).mono ?_;rw[w];refine dP ?_;intro j i c d e f l;clear i;go_wp2;refine aK (v:=aL #[am 0 aj 0 0,aw ak]) (by simp[aJ,results176,go_sem,c,d]) I ⟨?_,?_⟩
  ·exact b1.no _ _
  ·exact bB
 ·have x:U (cf ae g p=fb g p (g6 ae) 2):=by show cf ae g p=_;unfold cf;rw[w];rfl
  rw[x.o];go_enter func176,ntmps176;go_wp2_with fail;refine(nj _ _ _ _ _ _ z).mono ?_;rw[w];refine dP ?_;intro j i c d e f l;refine fg ?_;intro s t;refine k6 ?_;intro u k;clear i;go_wp2;go_region_with (first | (go_at_call 287;refine(qy _ _).mono ?_;rintro n P ⟨rfl,C,A⟩;have b:=au (bI j) A;have s:=ag b s;have t:=ag b t;have e:=aB b c e;have f:=aB b d f;have c:=ag b c;have d:=ag b d) | (go_at_call 286;refine(zC _ _ _ _ _ _ _ _ _ (g6 ae) _ (k.below b) C rfl).mono ?_;rintro n Q ⟨⟨O,rfl,y⟩,v⟩;obtain⟨D,N,G,rfl,K⟩:=y.ints;have B:=au b v;have e:=aB v c e;have f:=aB v d f;have c:=ag v c;have d:=ag v d));all_goals
   have H:=au l B;have L:=b.size;go_wp2;refine aK (by simp[aJ,results176,go_sem,c,d]) I ⟨⟨_,I,((y.setBelow (by simp;omega) _).setBelow (by simp;omega) _).mono E⟩,?_⟩;exact bB
end Go.Proofs.YtkjnhlpccgjfhaaGreatDoor
