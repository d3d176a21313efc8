/- A part of the proof: lemmas (my texts, shortened by a program of mine). -/
import Derived.Test.YtkjnhlpccgjfhaaGreatDoorC12
set_option linter.all false
set_option maxRecDepth 100000
set_option maxHeartbeats 4000000
namespace Go.Proofs.YtkjnhlpccgjfhaaGreatDoor
open Go.RowKit
open Go.Proofs.Tryz
open Bool renaming false->ak,true->ae
open Go renaming Calls->aY,Value->ay,World->af,bodyPost_ret->aK,callFunc->b0,results->aJ,wpQuiet_nil->dn
open Go.Ending renaming returned->aV
open Go.IntWalk renaming i64_in->bV
open Go.Obj renaming cells->al
open Go.Result renaming andThen_ok->ex
open Go.Sem renaming run->c9,run_bind->eC,run_pure->ey
open Go.Value renaming agg->ba,bool->aw,slice->aa,tuple->aL
open Go.World renaming ownsRow_lit->fF
open Int renaming mul_le_mul_of_nonneg_right->vc,zero_mul->j9
open List renaming replicate->bE
open Nat renaming and_le_left->kf,le_refl->bL,lt_of_le_of_lt->jB,lt_of_lt_of_le->cm
open Option renaming isNone_iff_eq_none->eB,none->aj,some->Z
open Or renaming inl->bj,inr->aP
open _root_ renaming Array->bg,Bool->a8,Int->F,List->aU,Nat->J,beq_iff_eq->cR,if_neg->aF,if_pos->a7,rfl->I
variable {p q:Prop}
theorem J5 {xs:ac} {a:J} (b:xs.length=a):aW xs=a9 (λ _=>1) xs a:=by rw[nL,b]
def gQ (b:ac) (c d:J):ac:=bx (λ a e=>e.set (2^a) (cP b (2^a) b.length)) (bE c 0) d
def Oe (b:F) (a:ac):ac:=gQ a a.length b.toNat
def gw (a:F) (b:ac):bc:=if aI a b then bh a (Oe a b) else bc.no
theorem tT (b:ac) (c a:J):gQ b c (a+1)=(gQ b c a).set (2^a) (cP b (2^a) b.length):=rfl
theorem Oc:∀a:Fin 5,∀b:Fin a.val,2^b.val<2^a.val:=aX
theorem lv (b:J->a8) {i:F} {a:ac} (e:aI i a=ae):0<=a9 (bm b) a a.length /\ a9 (bm b) a a.length<=1000000:=by
 obtain⟨_,m,_,c,_,k,_⟩:=bt e;have j:=(i3 b a a.length (λ h l=>c h E) a.length aZ).1;have f:a9 (bm b) a a.length<=a9 (λ _=>1) a a.length:=q9 a a.length (λ d g=>(c d E).1) (λ d g _=>by unfold bm;split<;>omega);rw[<- J5 (xs:=a) rfl] at f;omega
theorem C5 {a:F} (b:bK a=ae):a.toNat<5 /\ aH a=2^a.toNat:=by
 rcases cG.1 b with rfl | rfl | rfl | rfl<;>exact⟨aX,rfl⟩
def eU (b c:ac) (d:J):F:=bx (λ a e=>e+O c a*cP b (2^a) b.length) 0 d
theorem Cf (b a:F) (d: -1000<=b) (e:b<=1000) (c:0<=a) (h:a<=768000000): -768000000000<=b*a /\ b*a<=768000000000:=by
 have f:=vc e c;have g:=vc d c;omega
theorem J6 {i:F} {e g:J} {b c:ac} (d:fu i e g b c) (a:J) (m:a<=g): -768000000000*(a:F)<=eU b c a /\ eU b c a<=768000000000*(a:F):=by
 induction a with
 | zero=>exact⟨by simp[eU,bx],by simp[eU,bx]⟩
 | succ a h =>
  have j:=h E
  have f:=d.gb1 a E
  have k:=kt b (2^a) e d.n16 d.xb e aZ
  have n:=d.n16
  have l:=Cf (O c a) (cP b (2^a) b.length) f.1 f.2 (by rw[d.xlen];omega) (by rw[d.xlen];omega)
  show _<=eU b c a+O c a*cP b (2^a) b.length /\ eU b c a+O c a*cP b (2^a) b.length<=_
  push_cast
  omega
theorem I1 (a:J) (b:a<4):2^a<16:=by
 match a,b with
 | 0,_=>decide
 | 1,_=>decide
 | 2,_=>decide
 | 3,_=>decide
theorem tU (A:F) (m:aG) (d p:J) (c:J) (a:ac) (n:af) (Z5:an n m d a) (Z8:d<=16) (Z7:1<=d) (Z0:c<16) (y:∀b,b<d->0<=O a b /\ O a b<=1000000):
  aC 78 #[am A m d p,M c] n (M (cP a c d)):=by
 have D:=az n (al #[M A,aa m d p] 29);have V:=ab y;have Q:=ab (kt a c d Z8 y);clear y;have T:U (cP a c 1=0):=rfl;obtain⟨o,u⟩:∃o,U (n.alloc (al #[M A,aa m d p] 29)=o):=⟨_,I⟩;have Z6: o.cell? (ad n.heap.size 1)=Z (aa m d p):=by rw[<- u.o];simp
 rw[u.o] at D;go_enter func78,ntmps78;go_wp2;rw[u.o];go_loopw [5,6] (λ Z4 z wr=>∃b:J,1<=b /\ b<=d /\ z=M b /\ Z4=M (cP a c b) /\ ap o wr) (λ _ z _=>d-(intOf z).toNat)
 case atStart=>exact⟨1,E,Z7,I,by rw[T.o],Below.refl _ _⟩
 case round =>
  obtain⟨b,ZU,Z9,rfl,rfl,w⟩:=hrel;have e:=au D w;have ZO:=ag w Z6;by_cases P:b<d
  ·obtain⟨Z1,ZL,rfl,ZZ,Z3,ZY⟩:=Z5.at e P;have x:=V.o b P;have ZX:=Q.o b Z9;have K:U (cP a c (b+1)=cP a c b+ju (O a b) c b):=by show cP a c b+(if b=0 then 0 else ju (O a b) c b)=_;rw[aF E]
   have ZT:(b:F)<=16:=E;have Y:=mq c b E E;have G:=CT b E E;have N:c&&&b<16:=jB kf E;have H:=nO (c&&&b) N;have R:=ab (Dl (O a b) x.1 (cw (c&&&b)) (cw b) G);obtain⟨l,t⟩:∃l:J,U (c&&&b=l):=⟨_,I⟩;have S:U (b&&&c=l):=by rw[U,Nat.and_comm];exact t.o
   rw[t.o] at Y N H;obtain⟨f,r⟩:∃f:J,U (cw l=f):=⟨_,I⟩;obtain⟨i,s⟩:∃i:J,U (cw b=i):=⟨_,I⟩;rw[r.o] at H;have ZN:1<=i /\ i<=4:=by rw[<- s.o];omega
   have ZR:0<=12*O a b*(f:F):=Int.mul_nonneg E E;have ZQ:12*O a b*(f:F)<=48000000:=by
    have:=Int.mul_le_mul (show 12*O a b<=12000000 from E) (show (f:F)<=4 from E) E E;omega
   have ZM:((i:F)==0)=ak:=by simp;omega
   have ZW:=uw (O a b) c b x.1 x.2 E;have X:U (12*O a b*(f:F)/(i:F)=ju (O a b) c b):=by
    have W:12*O a b*(f:F)=O a b*(f:F)*12:=by rw[Int.mul_comm 12,Int.mul_assoc,Int.mul_comm 12,<- Int.mul_assoc]
    show _=O a b*((12*cw (b&&&c)/cw b:J):F);rw[W,S.o,<- r.o,<- s.o,<- t.o];exact R.o
   have ZP:=X.o;have ZV:(0:F)<=(b:F):=E;have j:(b:F)<(d:F):=E;clear G;have B:U (∀g,aY prog 79 #[M (l:F)] g λ v q=>v=aV (M (f:F)) /\ g=q):= λ g=>by rw[<- r.o];exact oI l _ E
   have C:U (∀g,aY prog 79 #[M (b:F)] g λ v q=>v=aV (M (i:F)) /\ g=q):= λ g=>by rw[<- s.o];exact oI b _ E
   go_wp2;refine cC ?_;repeat (first | go_big_quiet_step ((go_at_call 79;first | (with_reducible exact ej (B.o _)) | (with_reducible exact ej (C.o _)))) | quiet_step ((go_at_call 79;first | (with_reducible exact ej (B.o _)) | (with_reducible exact ej (C.o _)))))
   exact pJ
  ·have j:b=d:=E;exact pG
theorem I2 (b:ac) (c:J) (e:b.length<=16) (f:∀a,a<b.length->0<=O b a /\ O b a<=1000000) (a d:J):0<=O (gQ b c a) d /\ O (gQ b c a) d<=4000000000000000000:=by
 induction a with
 | zero=>show 0<=O (bE c 0) d /\ O (bE c 0) d<=_;rw[eF];omega
 | succ a g =>
  rw[tT,cO]
  have:=kt b (2^a) b.length e f b.length aZ
  split
  ·omega
  ·exact g
theorem E2 (v:F) (T:aG) (ZV Z2:J) (m:ac) (a:af) (u:an a T ZV m):
  bp 129 #[am v T ZV Z2] a (gw v m):=by
 cases w:aI v m
 ·have A:U (gw v m=bc.no):=by show gw v m=_;simp[gw,w]
  rw[A.o];go_enter func129,ntmps129;go_wp2_with fail;refine qf ?_;rw[w];refine dP ?_;intro j i c d e f l;clear i;go_wp2;refine aK (v:=aL #[am 0 aj 0 0,aw ak]) (by simp[aJ,results129,go_sem,c,d]) I ⟨?_,?_⟩
  ·exact b1.no _ _
  ·exact bB
 ·obtain⟨Z7,Z0,B,Z6,_⟩:=bt w;obtain⟨Z9,S⟩:=C5 Z7;have ZQ:=b8 Z7;obtain rfl:ZV=m.length:=u.len.symm;refine y2 ?_;intro r Y A Z8 Z5 S Z9 X W;have ZE:=ab Z6;subst Z5;obtain⟨g,Z1⟩:∃g,m.length=g:=⟨_,I⟩;rw[Z1] at u B X W ⊢;have Zm:2<=g:=by rw[<- Z1,Y.o];exact ZQ.1
  have ZR:=ab Z1;have ZG:U (∀(q:J) y,q<g->an y T g m->aC 226 #[am (r:F) T g Z2,M q] y (M (cP m q g))):= λ q y ZX ZY=>tE _ _ _ _ q m y ZY B E (by rw[<- ZR.o];exact ZE.o)
  have ZF:U (∀b,gQ m g (b+1)=(gQ m g b).set (2^b) (cP m (2^b) g)):= λ b=>by rw[tT,ZR.o]
  clear Z6 S Z8 Z0 Z1 ZQ;go_enter func129,ntmps129;go_wp2_with fail;refine qf ?_;rw[w];rintro n j ⟨rfl,i⟩;refine fI ?_;intro c d e f;have ZN:=aS i a.heap.size 0 (M (r:F));have ZM:=aS i a.heap.size 1 (aa T g Z2);refine ow ?_;intro O;refine e5 ?_;intro l;clear i w;go_wp2_with (at_make;refine e6 I _ _ I g _ _ I I I I E ?_;intro Zs ZO z Zu;(have ZU:=ag z ZN);(have ZT:=ag z ZM);(have G:=ag z c);(have H:=ag z d);(have P:=aB z c e);(have Q:=aB z d f));have V:=au l z;clear ZN ZM c d e f z;obtain⟨x,o⟩:∃x,j.heap.size=x:=⟨_,I⟩;rw[o] at ZO Zu O ⊢;clear o;have Zw:=ZO;go_loopw [5,16] (λ _ ZW wr=>∃b:J,b<=r /\ ZW=M b /\ av wr x (aq x g g) (gQ m g b) /\ Zs.grownBy wr (Z x)) (λ _ ZW _=>r-(intOf ZW).toNat)
  case atStart=>exact⟨0,E,I,Zw,hI _ _⟩
  case round =>
   obtain⟨b,Zi,rfl,t,o⟩:=hrel;refine mX ?_;intro s;have ZL:=cW o ZU E;have ZK:=cW o ZT E;by_cases Zx:b<r
   ·have C:=X.o b Zx;have Zv:=gO b E;have R:=ab (ZF.o b);obtain⟨q,ZX⟩:∃q:J,2^b=q:=⟨_,I⟩;rw[ZX] at C Zv R;have Zl:(0:F)<=(q:F):=E;have Zk:(q:F)<(g:F):=E;have Zh:(b:F)<(r:F):=E;have ZS:U (∀y,an y T g m->aC 226 #[am (r:F) T g Z2,M q] y (M (cP m q g))):= λ y ZY=>ZG.o q y C ZY
    obtain⟨D,N,_⟩:=t.cellAt C;clear ZX;go_wp2;refine ei 8 ah ah (λ _ _ _ _ _ Z3=>Z3) ?_;refine dY ?_;repeat (first | go_big_quiet_step ((go_at_call 226;(with_reducible exact aQ (ZS.o _ ((u.below s).below (aM _ _)))))) | quiet_step ((go_at_call 226;(with_reducible exact aQ (ZS.o _ ((u.below s).below (aM _ _)))))))
    refine et ?_;intro L k;exact vm
   ·obtain rfl:b=r:=E;refine l5 ?_;intro e f c d;have Zg:=o.size;obtain⟨Zq,Zo,Zp,ZH,Zy⟩:=t.ints;injection ZH with ZB ZA Zz
    subst ZB ZA Zz;clear o ZU ZT G H P Q;go_wp2_with fail;refine(jl _ _ _ _ (gQ m g b) _ Zy B (λ Z4 _=>W.o b Z4)).mono ?_;rintro n Ze ⟨⟨Zf,rfl,ZP⟩,p⟩;obtain⟨ZD,Zt,ZC,rfl,Zj⟩:=ZP.ints;refine h9 ?_;intro e f c d;have Zn:=au s p;clear p;go_wp2;refine aK (v:=aL #[ba #[M (bh (b:F) (gQ m g b)).size,aa ZD Zt ZC],aw (bh (b:F) (gQ m g b)).ok]) (by simp[aJ,results129,go_sem,c,d,e,f]) I ⟨?_,?_⟩
    ·exact⟨_,I,(((ZP.mono (base':=a.heap.size+1+1) E).setBelow ar _).setBelow ar _).mono E⟩
    ·exact aD
theorem Eh (v:F) (L:aG) (ZW T:J) (m:ac) (a:af) (u:an a L ZW m):
  bp 199 #[am v L ZW T] a (gw v m):=by
 cases w:aI v m
 ·have A:U (gw v m=bc.no):=by show gw v m=_;simp[gw,w]
  rw[A.o];go_enter func199,ntmps199;go_wp2_with fail;refine pO ?_;refine dP ?_;intro j i c d e f l;clear i;go_wp2;refine aK (v:=aL #[am 0 aj 0 0,aw ak]) (by simp[aJ,results199,go_sem,c,d]) I ⟨?_,?_⟩
  ·exact b1.no _ _
  ·exact bB
 ·obtain⟨Z7,Z0,B,Z6,_⟩:=bt w;obtain⟨Z9,S⟩:=C5 Z7;have ZS:=b8 Z7;obtain rfl:ZW=m.length:=u.len.symm;refine y2 ?_;intro r Y A Z8 Z5 S Z9 X W;have ZF:=ab Z6;subst Z5;obtain⟨g,Z2⟩:∃g,m.length=g:=⟨_,I⟩;rw[Z2] at u B X W ⊢;have Zn:2<=g:=by rw[<- Z2,Y.o];exact ZS.1
  have ZT:=ab Z2;have ZM:U (∀(q:J) y,q<g->an y L g m->aC 78 #[am (r:F) L g T,M q] y (M (cP m q g))):= λ q y ZY Z1=>tU _ _ _ _ q m y Z1 B E E (by rw[<- ZT.o];exact ZF.o)
  have ZG:U (∀b,gQ m g (b+1)=(gQ m g b).set (2^b) (cP m (2^b) g)):= λ b=>by rw[tT,ZT.o]
  clear Z6 S Z8 Z0 Z2 ZS;go_enter func199,ntmps199;go_wp2_with fail;refine pO ?_;rintro n j ⟨rfl,i⟩;refine fI ?_;intro c d e f;have ZP:=aS i a.heap.size 0 (M (r:F));have ZO:=aS i a.heap.size 1 (aa L g T);refine ow ?_;intro O;refine e5 ?_;intro l;clear i w;go_wp2_with (at_make;refine e6 I _ _ I g _ _ I I I I E ?_;intro Zt ZQ z Zv;(have ZV:=ag z ZP);(have ZU:=ag z ZO);(have G:=ag z c);(have H:=ag z d);(have P:=aB z c e);(have Q:=aB z d f));have V:=au l z;clear ZP ZO c d e f z;obtain⟨x,o⟩:∃x,j.heap.size=x:=⟨_,I⟩;rw[o] at ZQ Zv O ⊢;clear o;have Zx:=ZQ;go_loopw [5] (λ ZX wr=>∃b:J,b<=r /\ ZX=M b /\ av wr x (aq x g g) (gQ m g b) /\ Zt.grownBy wr (Z x)) (λ ZX _=>r-(intOf ZX).toNat)
  case atStart=>exact⟨0,E,I,Zx,hI _ _⟩
  case round =>
   obtain⟨b,Zj,rfl,t,o⟩:=hrel;refine mX ?_;intro s;have ZL:=cW o ZV E;have ZK:=cW o ZU E;by_cases Zy:b<r
   ·have C:=X.o b Zy;have Zw:=gO b E;have R:=ab (ZG.o b);obtain⟨q,ZY⟩:∃q:J,2^b=q:=⟨_,I⟩;rw[ZY] at C Zw R;have Zm:(0:F)<=(q:F):=E;have Zl:(q:F)<(g:F):=E;have Zi:(b:F)<(r:F):=E;have ZH:U (∀y,an y L g m->aC 78 #[am (r:F) L g T,M q] y (M (cP m q g))):= λ y Z1=>ZM.o q y C Z1
    obtain⟨D,N,_⟩:=t.cellAt C;have Zh:IntKind.u64.wrap (b:F)=(b:F):=by rw[IntWalk.u64_in];omega
    clear ZY;go_wp2_with fail;refine(ZH.o _ (u.below s)).mono ?_;rintro n Ze ⟨rfl,k⟩;exact vm
   ·obtain rfl:b=r:=E;refine l5 ?_;intro e f c d;have Zg:=o.size;obtain⟨Zs,Zp,Zq,ZN,Zz⟩:=t.ints;injection ZN with ZC ZB ZA
    subst ZC ZB ZA;clear o ZV ZU G H P Q;go_wp2_with fail;refine(hk _ _ _ _ (gQ m g b) _ Zz B (λ Z4 _=>W.o b Z4)).mono ?_;rintro n Zd ⟨⟨Zf,rfl,ZR⟩,p⟩;obtain⟨ZE,Zu,ZD,rfl,Zk⟩:=ZR.ints;refine h9 ?_;intro e f c d;have Zo:=au s p;clear p;go_wp2;refine aK (v:=aL #[ba #[M (bh (b:F) (gQ m g b)).size,aa ZE Zu ZD],aw (bh (b:F) (gQ m g b)).ok]) (by simp[aJ,results199,go_sem,c,d,e,f]) I ⟨?_,?_⟩
    ·exact⟨_,I,(((ZR.mono (base':=a.heap.size+1+1) E).setBelow ar _).setBelow ar _).mono E⟩
    ·exact aD
theorem Af (p:F) (o Q:aG) (c u l Z9:J) (b d:ac) (q:af) (T:an q o c b) (Z5:an q Q l d) (S:fu p c l b d):
  aC 189 #[am p o c u,aa Q l Z9] q (M (eU b d l)):=by
  have R:=az q (al #[M p,aa o c u] 29)
  have f:=ab S
  have D:=f.o.n16
  have Z8:=f.o.n1
  have ZV:=f.o.m4
  clear S
  obtain⟨t,y⟩:∃t,U (q.alloc (al #[M p,aa o c u] 29)=t):=⟨_,I⟩
  have Z7: t.cell? (ad q.heap.size 0)=Z (M p):=by rw[<- y.o];simp
  have Z6: t.cell? (ad q.heap.size 1)=Z (aa o c u):=by rw[<- y.o];simp
  rw[y.o] at R
  go_enter func189,ntmps189
  go_wp2
  rw[y.o]
  go_loopw [5,6] (λ Z4 H wr=>∃a:J,a<=l /\ H=M a /\ Z4=M (eU b d a) /\ ap t wr) (λ _ H _=>l-(intOf H).toNat)
  case atStart=>exact⟨0,E,I,I,Below.refl _ _⟩
  case round =>
   obtain⟨a,V,rfl,rfl,n⟩:=hrel;have e:=au R n;have ZU:=ag n Z7;have ZT:=ag n Z6;by_cases C:a<l
   ·obtain⟨Z0,ZS,rfl,ZZ,Z1,ZY⟩:=Z5.at e C;refine yv ?_;intro i g w N z v r s G m A B K;have P:U (∀x,an x o c b->aY prog 78 #[am p o c u,M (i:F)] x λ W Y=>W=aV (M g) /\ ap x Y):= λ x X=>by rw[<- m.o];exact tU p _ _ _ i b _ X D Z8 s f.o.xb
    have ZX:(0:F)<=(a:F):=E;have j:(a:F)<(l:F):=E;have ZW:(a:F)<4:=E;go_wp2;refine cC ?_;repeat (first | go_big_quiet_step ((go_at_call 78;(with_reducible exact aQ (P.o _ ((T.below e).below (aM _ _)))))) | quiet_step ((go_at_call 78;(with_reducible exact aQ (P.o _ ((T.below e).below (aM _ _)))))))
    exact wv
   ·have j:a=l:=E;exact pG
theorem FX (u:J) (t:F) (q H:aG) (c P l X:J) (b d:ac) (o:af) (R:an o q c b) (Z7:an o H l d) (Q:fu t c l b d) (Z9: o.cell? (ad u 0)=Z (M t)) (Z8: o.cell? (ad u 1)=Z (aa q c P)):
  aC 318 #[aa H l X,br u] o (M (eU b d l)):=by
  have Y:=Below.refl o.heap.size o
  have f:=ab Q
  have D:=f.o.n16
  have ZW:=f.o.n1
  have ZX:=f.o.m4
  clear Q
  go_enter func318,ntmps318
  go_wp2
  go_loopw [4,5,6,9] (λ Z6 _ _ x wr=>∃a:J,a<=l /\ x=M a /\ Z6=M (eU b d a) /\ ap o wr) (λ _ _ _ x _=>l-(intOf x).toNat)
  case atStart=>exact⟨0,E,I,I,Below.refl _ _⟩
  case round =>
   obtain⟨a,V,rfl,rfl,n⟩:=hrel;have e:=au Y n;have ZV:=ag n Z9;have ZU:=ag n Z8;by_cases C:a<l
   ·obtain⟨Z4,ZT,rfl,Z1,Z5,Z0⟩:=Z7.at e C;refine yv ?_;intro i g w N z v r s G m A B K;have y:U (∀p,an p q c b->aY prog 226 #[am t q c P,M (i:F)] p λ S W=>S=aV (M g) /\ ap p W):= λ p T=>by rw[<- m.o];exact tE t _ _ _ i b _ T D s f.o.xb
    have ZZ:(0:F)<=(a:F):=E;have j:(a:F)<(l:F):=E;have ZY:(a:F)<4:=E;go_wp2;refine cC ?_;repeat (first | go_big_quiet_step ((go_at_call 226;(with_reducible exact aQ (y.o _ ((R.below e).below (aM _ _)))))) | quiet_step ((go_at_call 226;(with_reducible exact aQ (y.o _ ((R.below e).below (aM _ _)))))))
    exact wv
   ·have j:a=l:=E;exact pG
theorem Fl (c:bg ay) (a:af):c9 prog (b0 318 c) a=.ok (.enter 318 c) a:=by
 have g:(Tryz.f318.name== "runtime.NumGoroutine")=ak:=ah;have b:Tryz.f318.body.isNone=ak:=ah;have d:¬Tryz.f318.name= "runtime.NumGoroutine" :=by simpa using g
 have e:¬Tryz.f318.body=aj:=by intro f;rw[f] at b;simp at b
 simp only[b0,eC,run_program,ex,func318,cR,eB,aF d,aF e,ey]
theorem GM (e:F) (y z:aG) (g G r L:J) (c:ac) (a:aU (ac)) (m:af) (x:an m y g c) (o:dj m z r a):
  aC 248 #[am e y g G,aa z r L] m (M (fc (ce e c a) (λ b=>eU c (aO a b) (aO a b).length) r)):=by
 have n:=az m (al #[M e,aa y g G] 29);cases i:ce e c a
 ·go_enter func248,ntmps248;exact sy
 ·obtain⟨C,B,Z9,Z8,A⟩:=jk i;refine k5 ?_;intro D H p K;clear A B;obtain⟨T,N⟩:=o.vals;have w:=ab N;clear N;have Q:r<=100000000:=by have:=p.o;omega
  go_enter func248,ntmps248;go_wp2_with fail;refine k4 ?_;rintro f E ⟨rfl,j⟩;obtain⟨R,S,l⟩:=dZ j;clear j;go_wp2_with fail;refine(tN z r L T 318 #[br m.heap.size] (λ b=>eU c (aO a b) (aO a b).length) _ Q Fl ?_ ?_).mono ?_
  ·exact sj
  ·intro b P q t;refine sG ?_;intro u s v f k d;refine(FX m.heap.size e _ _ _ _ _ _ c (aO a b) P ((x.below l).below t) ((k.below l).below t) d (ag t R) (ag t S)).mono ?_;rintro f Z ⟨rfl,O⟩;refine⟨gZ ?_,O⟩;rw[d.glen]
  exact sv
theorem Eu (g:F) (q Z0:aG) (m r c ZW:J) (n:ac) (e:aU (ac)) (a:af) (x:an a q m n) (o:dj a Z0 c e):
  aC 89 #[am g q m r,aa Z0 c ZW] a (M (fc (ce g n e) (λ b=>eU n (aO e b) (aO e b).length) c)):=by
 have ZN:Below a.heap.size a ((a.alloc (al #[M g,aa q m r] 29)).alloc (al #[] 3)):=(az a _).alloc ar _;cases X:ce g n e
 ·go_enter func89,ntmps89;exact rW
 ·obtain⟨Zz,B,ZM,ZL,A⟩:=jk X;refine k5 ?_;intro D H p K;clear A B;have ZJ:=o.cap;have Z6:1<=c:=by have:=p.o;omega
  have ZG:c<=8:=by have:=p.o;omega
  obtain⟨u,Z1⟩:∃u:J->F,U (u= λ b=>eU n (aO e b) (aO e b).length):=⟨_,I⟩;have ZX:U (∀b,u b=eU n (aO e b) (aO e b).length):= λ b=>by rw[Z1.o]
  rw[<- Z1.o];go_enter func89,ntmps89;go_wp2_with fail;refine qg ?_;intro j i;refine fg ?_;intro s t;have ZU:av j (a.heap.size+1) (aq (a.heap.size+1) 0 0) (cQ u 0):=by
   exact rV
  refine ow ?_;intro O;refine e5 ?_;intro l;clear i;go_wp2;go_loopw [5,6] (λ ZZ Z5 wr=>∃(b:J) (Z4:ay),b<=c /\ Z5=M b /\ ZZ=Z4 /\ av wr (a.heap.size+1) Z4 (cQ u b) /\ Below (a.heap.size+1) j wr /\ j.heap.size<=wr.heap.size) (λ ZZ Z5 _=>c-(intOf Z5).toNat)
  case atStart=>exact⟨0,_,E,I,I,ZU,Below.refl _ _,bL _⟩
  case round =>
   obtain⟨b,Z4,ZH,rfl,rfl,G,y,ZF⟩:=hrel;refine iy ?_;intro f w z;by_cases Y:b<c
   ·obtain⟨Z7,ZE,ZP,S,Z8,rfl,ZK,ZO,ZI,N⟩:=o.at f Y;refine tc ?_;intro v W;have Z3:U (eU n (aO e b) S=u b):=by rw[ZX.o b];rw[v.o.glen];exact I
    refine l4 ?_;intro P Q;go_wp2;refine l7 7 _ _ ah ah I I I (λ _ _ _ _ _ ZV=>ZV) ⟨_,I⟩ ?_;refine dY ?_;repeat (first | go_big_quiet_step ((go_at_call 189;exact aQ (Af g _ _ _ _ _ _ n (aO e b) _ ((x.below f).below (aM _ _)) (N.below (aM _ _)) v.o))) | quiet_step ((go_at_call 189;exact aQ (Af g _ _ _ _ _ _ n (aO e b) _ ((x.below f).below (aM _ _)) (N.below (aM _ _)) v.o))))
    exact rU
   ·exact sx
def j4 (b a c:ac):F:=gX b (dw a c a.length) b.length
def lF (d:ac) (a:aU (ac)) (c:J):a8:=bq (λ b=> !decide (0<j4 d (aO a b) (aO a c))) a.length
def fz (e:ac) (c:aU (ac)) (d:J):ac:=bx (λ a b=>if lF e c a then b++[(a:F)] else b) [] d
def fJ (c:F) (b:ac) (a:aU (ac)):ac:=if ce c b a then fz b a a.length else []
theorem ny (c:ac) (b:aU (ac)) (a:J):fz c b (a+1)=if lF c b a then fz c b a++[(a:F)] else fz c b a:=rfl
theorem tV (c:ac) (b:aU (ac)) (a:J):(fz c b a).length<=a:=by
 induction a with
 | zero=>exact bL _
 | succ a d =>
  rw[ny];split
  ·simp;omega
  ·omega
structure g8 (s:F) (n m:J) (xs f g:ac):Prop where
 a:fu s n m xs f
 b:fu s n m xs g
theorem rD {b:F} {c d e:ac} {l a f:J} (j:aI b c=ae) (g:O c 0=0) (h:b7 b d=ae) (i:b7 b e=ae) (k:c.length=l) (n:d.length=a) (o:e.length=f):f=a /\ g8 b l a c d e:=by
 have p:=nr h;have q:=nr i;have m:f=a:=E;subst m;exact⟨I,js j g h k n,js j g i k o⟩
theorem g8.over {g:F} {f e:J} {c a b:ac} (d:g8 g f e c a b):j4 c a b=gX c (dw a b e) f:=by
 unfold j4;rw[d.a.glen,d.a.xlen]
theorem g8.subb {h:F} {g c:J} {i d e:ac} (f:g8 h g c i d e):∀a,a<c->cr (O (dw d e c) a):= λ a b=>by
 rw[BL _ _ _ _ b];have:=f.a.gb1 a b;have:=f.b.gb1 a b;unfold cr;omega
theorem g8.low {i:F} {f e:J} {a b c:ac} (d:g8 i f e a b c):j3 min a (dw b c e)=gX a (dw b c e) f:=by
 show e9 min a (dw b c e) a.length=_;rw[d.a.xlen];refine Mg a _ d.a.zero (λ h g=>d.subb h (by rw[i0] at g;exact g)) f ?_ f aZ;rw[i0,<- d.a.pow];exact bL _
theorem G3 (f m:J) (l:F) (n s o:aG) (k r a z p:J) (Z9 d e:ac) (b:af) (O:an b n k Z9) (D:an b s a d) (G:an b o a e) (t:g8 l k a Z9 d e)
  (u: b.cell? (ad f 0)=Z (M l)) (v: b.cell? (ad f 1)=Z (aa n k r)) (w: b.cell? (ad m 0)=Z (aa o a p)):
  aC 319 #[aa s a z,br f,br m] b (aw (decide (0<j4 Z9 d e))):=by
 have c:=ab t;clear t;have K:a<=29:=by have:=c.o.a.m4;omega
 have H:a<=100:=E;obtain⟨y,q⟩:∃y:F,U (j4 Z9 d e=y):=⟨_,I⟩;rw[q.o];go_enter func319,ntmps319;go_wp2;go_region_held3 (λ i=>i.cell? (ad f 0)=Z (M l) /\ i.cell? (ad f 1)=Z (aa n k r) /\ i.cell? (ad m 0)=Z (aa o a p) /\ ap b i) (first | (refine⟨by assumption,by assumption,by assumption,by assumption⟩;done) | (refine⟨by simp[*],by simp[*],by simp[*],?_⟩;exact bB;done)) (first | (go_at_call 155;refine(AH _ _ _ _ _ d e _ (D.below (bI _)) (G.below (bI _)) H c.o.a.gb1 c.o.b.gb1).mono ?_;rintro A X ⟨W,rfl,N,B⟩;obtain⟨T,S,V,rfl,x⟩:=N.ints;have L:S=a:=(by rw[<- x.len];exact i0 _ _ _);subst L;have g:=au (bI b) B;have P:=ag g u;have Q:=ag g v;have R:=ag g w) | (go_at_call 282;refine(np l _ _ _ _ _ _ Z9 (dw d e _) _ (O.below g) x c.o.a.n16 K c.o.a.xb c.o.subb).mono ?_;rw[c.o.low,<- c.o.over,q.o];rintro A Y ⟨rfl,C⟩;have j:=au g C;have P:=ag j u;have Q:=ag j v;have R:=ag j w));all_goals
  go_wp2;go_ret;exact⟨I,j⟩
theorem GN (c:bg ay) (a:af):c9 prog (b0 319 c) a=.ok (.enter 319 c) a:=by
 have g:(Tryz.f319.name== "runtime.NumGoroutine")=ak:=ah;have b:Tryz.f319.body.isNone=ak:=ah;have d:¬Tryz.f319.name= "runtime.NumGoroutine" :=by simpa using g
 have e:¬Tryz.f319.body=aj:=by intro f;rw[f] at b;simp at b
 simp only[b0,eC,run_program,ex,func319,cR,eB,aF d,aF e,ey]
theorem E3 (j:F) (R Z6:aG) (T Z5 e Z4:J) (c:ac) (a:aU (ac)) (l:af) (x:an l R T c) (o:dj l Z6 e a):
  db 249 #[am j R T Z5,aa Z6 e Z4] l (fJ j c a):=by
 have n:=az l (al #[M j,aa R T Z5] 29);cases i:ce j c a
 ·have s:U (fJ j c a=[]):=by rw[U];unfold fJ;rw[i];rfl
  go_enter func249,ntmps249;go_wp2_with fail;refine k4 ?_;rintro g t ⟨rfl,k⟩;obtain⟨_,_,w⟩:=dZ k;exact xu
 ·have s:U (fJ j c a=fz c a a.length):=by rw[U];unfold fJ;rw[i];rfl
  obtain⟨ZK,B,Zx,Zw,A⟩:=jk i;refine k5 ?_;intro D H p K;clear A B;have ZO:=o.cap;obtain⟨ZD,ZV⟩:=o.vals;have Z7:=ab ZV;clear ZV;have Zs:e<=8:=by have:=p.o;omega
  go_enter func249,ntmps249;go_wp2_with fail;refine k4 ?_;rintro g t ⟨rfl,k⟩;obtain⟨ZW,ZI,w⟩:=dZ k;have Zr:l.heap.size<t.heap.size:=b6 ZW;clear k;go_wp2;go_loopw [5,6,7,15] (λ ZE _ _ S wr=>∃(b:J) (W:ay),b<=e /\ S=M b /\ ZE=W /\ av wr t.heap.size W (fz c a b) /\ ap t wr) (λ _ _ _ S _=>e-(intOf S).toNat)
  case atStart =>
   refine⟨0,_,E,I,I,?_,az _ _⟩;exact fF t #[] 0 aZ (by unfold maxLen;omega) I
  case round =>
   obtain⟨b,W,Zt,rfl,rfl,u,y⟩:=hrel;have m:=au w y;have ZG:=ag y ZW;have ZF:=ag y ZI;by_cases ZX:b<e
   ·obtain⟨G,ZU,N,O,z,rfl,Zv,ZA,Zu,ZZ⟩:=o.at m ZX;have d:Below wr.heap.size wr (wr.alloc (al #[aa N O z] 27)):=az _ _;obtain⟨Q,P⟩:∃Q,U (wr.alloc (al #[aa N O z] 27)=Q):=⟨_,I⟩;have ZN: Q.cell? (ad wr.heap.size 0)=Z (aa N O z):=by rw[<- P.o];simp
    rw[P.o] at d;have ZM:=ag d ZG;have ZL:=ag d ZF;go_wp2_with fail;rw[P.o];refine(tj _ e Z4 ZD 319 #[br l.heap.size,br wr.heap.size] (λ f=>decide (0<j4 c (aO a f) (aO a b))) _ ZO GN ?_ ?_).mono ?_
    ·intro f L;obtain⟨⟨G,ZU,g,ZQ,ZP⟩,_⟩:=Z7.o f L;exact⟨G,ZU,g,cm ZQ (m.trans (d.mono m.size)).size,ag (au m d) ZP⟩
    ·intro f X L v;obtain⟨_,Zz,Zp,Zy,g,ZY⟩:=Z7.o f L;rw[g];obtain⟨ZR,ZJ⟩:=rD ZK H.o (D.o f (by rw[p.o];exact L)) (D.o b (by rw[p.o];exact ZX)) K.o ZY.len ZZ.len;subst ZR;have Z3:=au (au m d) v;exact G3 l.heap.size wr.heap.size j _ _ _ _ _ _ _ _ c (aO a f) (aO a b) X (x.below Z3) (ZY.below Z3) ((ZZ.below d).below v) ZJ (ag v ZM) (ag v ZL) (ag v ZN)
    have ZT:U ((!bq (λ f=> !decide (0<j4 c (aO a f) (aO a b))) e)= !lF c a b):=by rw[U];unfold lF;rw[p.o]
    rw[ZT.o];rintro g ZC ⟨rfl,Z2⟩;have C:=au (au y d) Z2;have r:=(u.below d).below Z2;have Zq:=C.size;have ZS:=tV c a b;cases Z1:lF c a b
    ·have q:U (fz c a (b+1)=fz c a b):=by rw[U,ny,Z1];rfl
     exact wl
    ·have q:U (fz c a (b+1)=fz c a b++[(b:F)]):=by rw[U,ny,Z1];rfl
     obtain⟨V,Z9⟩:∃V,U ((fz c a b).length=V):=⟨_,I⟩;rw[Z9.o] at ZS;go_wp2_with (at_builtin;refine iz I _ _ I t.heap.size _ _ V Z9.o a6 (r.below (az ZC _)) _ _ (b:F) a6 ar E (by simp;omega) ?_;intro ZB z X Z8 Z0);have Y:=ab (cV (B:=t.heap.size) (C.alloc E _) (by simp;omega) Z0 (λ G g=>(r.block G g).1));clear Z0 u r m y;exact sn
   ·exact rY
def mv (e:ac) (a:aU (ac)) (d c:J):a8:= !bq (λ b=> !decide (0<j4 e (aO a b) (aO a d))) c
theorem Iy (d:ac) (a:aU (ac)) (c b:J):mv d a c (b+1)=(mv d a c b||decide (0<j4 d (aO a b) (aO a c))):=by
 unfold mv;simp only[bq];rw[Bool.not_and,Bool.not_not]
theorem Ei (f:F) (i ZU:aG) (j k c Zy:J) (e:ac) (d:aU (ac)) (a:af) (x:an a i j e) (o:dj a ZU c d):
  db 90 #[am f i j k,aa ZU c Zy] a (fJ f e d):=by
 have t:Below a.heap.size a ((a.alloc (al #[M f,aa i j k] 29)).alloc (al #[] 3)):=(az a _).alloc ar _;have Z5:av ((a.alloc (al #[M f,aa i j k] 29)).alloc (al #[] 3)) (a.heap.size+1) (aq (a.heap.size+1) 0 0) []:=by
  have:av ((a.alloc (al #[M f,aa i j k] 29)).alloc (al #[] 3)) (a.alloc (al #[M f,aa i j k] 29)).heap.size (aq ((a.alloc (al #[M f,aa i j k] 29)).heap.size) 0 0) []:=fF _ #[] 0 aZ (by unfold maxLen;omega) I;simpa using this
 have ZO:((a.alloc (al #[M f,aa i j k] 29)).alloc (al #[] 3)).cell? (ad a.heap.size 0)=Z (M f):=ar;have ZN:((a.alloc (al #[M f,aa i j k] 29)).alloc (al #[] 3)).cell? (ad a.heap.size 1)=Z (aa i j k):=ar;have Zm:a.heap.size+1<((a.alloc (al #[M f,aa i j k] 29)).alloc (al #[] 3)).heap.size:=ar;obtain⟨m,X⟩:∃m,U ((a.alloc (al #[M f,aa i j k] 29)).alloc (al #[] 3)=m):=⟨_,I⟩;rw[X.o] at t Z5 ZO ZN Zm;cases s:ce f e d
 ·have W:U (fJ f e d=[]):=by rw[U];unfold fJ;rw[s];rfl
  go_enter func90,ntmps90;go_wp2;rw[X.o];refine wp_loop_rounds 1 ?_;rw[rounds_succ];go_wp2_with fail;refine(na _ _ _ _ _ _ _ e d _ (x.below t) (o.below t)).mono ?_;rw[s];rintro G T ⟨rfl,l⟩;have z:=au t l;have Zo:=Z5.below l;clear l;go_wp2;go_ret;exact⟨⟨_,I,by rw[W.o];exact Zo.mono E⟩,z⟩
 ·have W:U (fJ f e d=fz e d d.length):=by rw[U];unfold fJ;rw[s];rfl
  obtain⟨Zp,B,Zc,Zb,A⟩:=jk s;refine k5 ?_;intro D H p K;clear A B;have Y9:=o.cap;have Y5:c<=8:=by have:=p.o;omega
  go_enter func90,ntmps90;go_wp2;rw[X.o];go_loopw [5,6] (λ Zk Z4 wr=>∃(b:J) (Z1:ay),b<=c /\ Z4=M b /\ Zk=Z1 /\ av wr (a.heap.size+1) Z1 (fz e d b) /\ Below (a.heap.size+1) m wr /\ m.heap.size<=wr.heap.size) (λ _ Z4 _=>c-(intOf Z4).toNat)
  case atStart=>exact⟨0,_,E,I,I,Z5,Below.refl _ _,bL _⟩
  case round =>
   obtain⟨b,Z1,Y6,rfl,rfl,v,u,Zl⟩:=hrel;have y:ap a wr:=t.trans (u.mono E);have Z7:=dL u E ZO;have Z6:=dL u E ZN;go_wp2_with fail;refine(na _ _ _ _ _ _ _ e d _ (x.below y) (o.below y)).mono ?_;rw[s];rintro G T ⟨rfl,l⟩;have z:=au y l;have Zr:Below (a.heap.size+1) m T:=u.trans (l.mono E);have Y1:m.heap.size<=T.heap.size:=by have:=l.size;omega
   replace v:=v.below l;replace Z7:=ag l Z7;replace Z6:=ag l Z6;clear l y u Zl;by_cases ZQ:b<c
   ·go_wp2;go_loopw [7,8] (λ w Z3 Zj=>∃g:J,g<=c /\ Z3=M g /\ w=aw (mv e d b g) /\ ap T Zj) (λ _ Z3 _=>c-(intOf Z3).toNat)
    case atStart=>exact⟨0,E,I,I,Below.refl _ _⟩
    case round =>
     obtain⟨g,Y4,rfl,rfl,r⟩:=hrel;have L:=au z r;have Y3:=ag r Z7;have Y2:=ag r Z6;have ZB:=ab (Iy e d b g);by_cases ZL:g<c
     ·obtain⟨ZK,Y0,Z0,Ze,ZZ,rfl,Za,Zh,Y8,Z9⟩:=o.at L ZL;obtain⟨Zd,YZ,ZV,O,Zz,Y,_,_,Y7,Z8⟩:=o.at L ZQ;injection Y with Y
      injection Y with Zx Zw
      subst Zx Zw;obtain⟨Zv,ZP⟩:=rD Zp H.o (D.o g (by rw[p.o];exact ZL)) (D.o b (by rw[p.o];exact ZQ)) K.o Z9.len Z8.len;subst Zv;have q:=ab ZP;clear ZP;obtain⟨w,ZW⟩:∃w:a8,U (decide (0<j4 e (aO d g) (aO d b))=w):=⟨_,I⟩;have ZY:U (∀n,an n i j e->an n Z0 O (aO d g)->an n ZV O (aO d b)->aY prog 190 #[am f i j k,aa Z0 O ZZ,aa ZV O Zz] n λ ZJ ZG=>ZJ=aV (aw w) /\ ap n ZG):= λ n Zu Zt Zs=>by
       rw[<- ZW.o,q.o.over];exact Hh f _ _ _ _ _ _ _ _ e (aO d g) (aO d b) _ Zu Zt Zs q.o.a.n16 q.o.a.n1 (by have:=q.o.a.m4;omega) q.o.a.zero q.o.a.xb q.o.a.gb1 q.o.b.gb1
      refine l4 ?_;intro P Q;have Zg:(0:F)<=(g:F):=E;have Zf:(g:F)<(c:F):=E;cases Zq:mv e d b g;all_goals
       go_wp2;refine gj ah ah ?_;repeat (first | go_big_quiet_step ((go_at_call 190;(with_reducible exact aQ (ZY.o _ ((x.below L).below (aM _ _)) (Z9.below (aM _ _)) (Z8.below (aM _ _)))))) | quiet_step ((go_at_call 190;(with_reducible exact aQ (ZY.o _ ((x.below L).below (aM _ _)) (Z9.below (aM _ _)) (Z8.below (aM _ _)))))))
       refine dn ?_;refine dg ?_;intro YY ZT;have ZF:=ab (au r ZT);clear ZT;go_wp2;go_roundw
       case rel=>exact⟨g+1,E,by go_num,by rw[ZB.o,Zq,ZW.o];rfl,ZF.o⟩
       case measure=>simp[intOf];omega
     ·have ZM:g=c:=E;have ZA:=ab ZM;clear ZM;have ZE:U (mv e d b g= !lF e d b):=by rw[U,ZA.o];unfold mv lF;rw[p.o]
      have N:=v.below r;have S:Below (a.heap.size+1) m wr:=Zr.trans (r.mono E);have Zn:m.heap.size<=wr.heap.size:=by have:=r.size;omega
      have ZC:=tV e d b;rw[ZE.o];cases ZS:lF e d b
      ·have V:U (fz e d (b+1)=fz e d b):=by rw[U,ny,ZS];rfl
       go_wp2;go_roundw
       case rel=>exact⟨b+1,_,E,by go_num,I,by rw[V.o];exact N,S,Zn⟩
       case measure=>simp[intOf];omega
      ·have V:U (fz e d (b+1)=fz e d b++[(b:F)]):=by rw[U,ny,ZS];rfl
       obtain⟨Z2,ZX⟩:∃Z2,U ((fz e d b).length=Z2):=⟨_,I⟩;rw[ZX.o] at ZC;go_wp2_with (at_builtin;refine iz I _ _ I (a.heap.size+1) _ _ Z2 ZX.o a6 (N.below (az wr _)) _ _ (b:F) a6 ar E (by simp;omega) ?_;intro Zi ZZ n ZI C);refine sK ?_;intro R;have ZH:m.heap.size<=n.heap.size:=by have:=C.size;simp at this;omega
       clear C v N;go_roundw
       case rel=>exact⟨b+1,_,E,by go_num,I,by rw[V.o];exact ZI,R.o,ZH⟩
       case measure=>simp[intOf];omega
   ·have ZR:b=c:=E;have ZD:=ab ZR;clear ZR;go_wp2;go_ret;exact⟨⟨_,I,by rw[W.o,p.o,<- ZD.o];exact v.mono E⟩,z⟩
def jt (b a c:ac):F:= -(bS 2000 b (ca (dw a c a.length) a.length) b.length)
def hM (f:ac) (a:aU (ac)) (d c:J):F:=bx (λ b e=>max e (jt f (aO a b) (aO a d))) 0 c
def fw (d:F) (b:ac) (a:aU (ac)) (c:F):bb:=if ce d b a&&bi 0 ((a.length:F)-1) c then bv (hM b a c.toNat a.length) (aW b) else bb.no
theorem qz {d:F} {e:ac} {b:aU (ac)} {c:F} (a:ce d e b=ak \/ bi 0 ((b.length:F)-1) c=ak):fw d e b c=bb.no:=by
 rcases a with a | a<;>simp[fw,a]
theorem g8.loss {g:F} {f c:J} {d a b:ac} (e:g8 g f c d a b):jt d a b= -(bS 2000 d (ca (dw a b c) c) f):=by
 unfold jt;rw[e.a.glen,e.a.xlen]
theorem g8.high {i:F} {f e:J} {a b c:ac} (d:g8 i f e a b c):j3 max a (dw b c e)=jt a b c:=by
 rw[d.loss];show e9 max a (dw b c e) a.length=_;rw[d.a.xlen];have:=BM 2000 a (dw b c e) d.a.zero (λ h g=>(d.subb h (by rw[i0] at g;exact g)).1) f (by rw[i0,<- d.a.pow];exact bL _) f aZ;rw[i0] at this;exact this
theorem g8.negb {h:F} {g b:J} {i c d:ac} (f:g8 h g b i c d):∀a,a<b->cr (O (ca (dw c d b) b) a):= λ a e=>by
 rw[qT _ _ _ e];have:=f.subb a e;unfold cr at *;omega
theorem g8.loss_bd {i:F} {f e:J} {d a b:ac} (c:g8 i f e d a b): -32000000000<=jt d a b /\ jt d a b<=32000000000:=by
 rw[c.loss];have j:=mp 2000 E d (ca (dw a b e) e) f c.a.xb (λ h g=>c.negb h (by rw[i2] at g;exact g)) f aZ;have:=c.a.n16;omega
theorem G4 (g v:F) (q Z6:aG) (m r y ZJ:J) (b:ac) (k:aU (ac)) (a:af) (H:an a q m b) (K:dj a Z6 y k):
  aC 58 #[am g q m r,aa Z6 y ZJ,M v] a (aL #[ba #[M (fw g b k v).num,M (fw g b k v).den],aw (fw g b k v).ok]):=by
 have D:Below a.heap.size a ((a.alloc (al #[M g,aa q m r] 29)).alloc (al #[M 0,M 0] 55)):=(az a _).alloc ar _;cases C:ce g b k
 ·have P:U (fw g b k v=bb.no):=qz (bj C);go_enter func58,ntmps58;go_wp2_with fail;refine(qi _ _ _ _ _ _ _ b k _ (H.below D) (K.below D)).mono ?_;rw[C];refine dP ?_;intro j i c d e f l;clear i;go_wp2;refine aK (v:=bz 0 0 ak) (by simp[aJ,results58,go_sem,c,d]) I ⟨?_,?_⟩
  ·rw[P.o];rfl
  ·exact bB
 ·obtain⟨X,ZR,Zc,Zb,Z5⟩:=jk C;have L:=ab K.len;have Y5:y<=8:=by have:=L.o;omega
  by_cases Z0:0<=v /\ v<(y:F)
  ·obtain⟨Y7,Y6⟩:=Z0;obtain⟨o,rfl⟩:∃o:J,v=(o:F):=⟨v.toNat,E⟩;have ZZ:o<y:=E;have P:U (fw g b k (o:F)=bv (hM b k o y) (aW b)):=by
    rw[U];unfold fw;rw[C,bM.2 (by have:=L.o;omega),L.o];rfl
   have Z7:=ab Z5;clear Z5;have ZN:=ab ZR;clear ZR;have Y:=ab H.len;obtain⟨_,_,_,ZS,Y3,Y2,_⟩:=cv X;have ZO:U (∀o,o<m->0<=O b o /\ O b o<=1000000000000000):= λ o ZC=>by have:=ZS o (by rw[Y.o];exact ZC);omega
   have Zw:m<=16:=by have:=(cv X).2.2.1;have:=Y.o;omega
   clear ZS;go_enter func58,ntmps58;go_wp2_with fail;refine(qi _ _ _ _ _ _ _ b k _ (H.below D) (K.below D)).mono ?_;rw[C];rintro n j ⟨rfl,i⟩;refine fI ?_;intro c d e f;refine fg ?_;intro s t;refine e5 ?_;intro l;clear i;go_wp2;go_loopw [8,10,28] (λ A _ Z9 wr=>∃u:J,u<=y /\ Z9=M u /\ A=M (hM b k o u) /\ 0<=hM b k o u /\ hM b k o u<=32000000000 /\ ap j wr) (λ _ _ Z9 _=>y-(intOf Z9).toNat)
   case atStart=>exact⟨0,E,I,I,by show (0:F)<=0;omega,by show (0:F)<=32000000000;omega,Below.refl _ _⟩
   case round =>
    obtain⟨u,Y4,rfl,rfl,ZA,Zz,w⟩:=hrel;have Q:=au l w;have ZX:=ag w s;have ZW:=ag w t;have V:U (hM b k o (u+1)=max (hM b k o u) (jt b (aO k u) (aO k o))):=rfl;obtain⟨A,B⟩:∃A,U (hM b k o u=A):=⟨_,I⟩;rw[B.o] at ZA Zz;rw[B.o];by_cases ZU:u<y
    ·obtain⟨ZL,Zo,Zn,Zh,Zm,rfl,Za,Zk,Y8,Z2⟩:=K.at Q ZU;obtain⟨Zf,Y1,ZM,T,ZK,W,_,_,Z3,Z1⟩:=K.at Q ZZ;injection W with W
     injection W with ZI ZH
     subst ZI ZH;obtain⟨ZG,ZY⟩:=rD X ZN.o (Z7.o u (by rw[L.o];exact ZU)) (Z7.o o (by rw[L.o];exact ZZ)) Y.o Z2.len Z1.len;subst ZG;have z:=ab ZY;clear ZY;have ZB:=z.o.loss_bd;obtain⟨Z8,N⟩:∃Z8,U (jt b (aO k u) (aO k o)=Z8):=⟨_,I⟩;rw[N.o] at ZB;have Zx:T<=29:=by have:=z.o.a.m4;omega
     have Zy:T<=100:=E;have Zj:(0:F)<=(u:F):=E;have Zi:(u:F)<(y:F):=E;go_wp2;go_region_held3 (λ S=>S.cell? (ad a.heap.size 0)=Z (M g) /\ S.cell? (ad a.heap.size 1)=Z (aa q m r) /\ S.cell? ⟨ZL,Zo+o,aj⟩=Z (aa ZM T ZK) /\ ap wr S) (first | (refine⟨by assumption,by assumption,by assumption,by assumption⟩;done) | (refine⟨by simp[*],by simp[*],by simp[*],?_⟩;exact bB;done)) (first | (go_at_call 155;refine(AH _ _ _ _ _ (aO k u) (aO k o) _ (Z2.below (bI _)) (Z1.below (bI _)) Zy z.o.a.gb1 z.o.b.gb1).mono ?_;rintro n YZ ⟨Y0,rfl,Zt,Z4⟩;obtain⟨Zg,Zp,Ze,rfl,ZT⟩:=Zt.ints;have Zv:Zp=T:=(by rw[<- ZT.len];exact i0 _ _ _);subst Zv;have G:=au (bI wr) Z4;have Zs:=ag G ZX;have Zr:=ag G ZW;have Zq:=ag G Z3) | (go_at_call 154;refine(qv g _ _ _ _ _ _ b (dw (aO k u) (aO k o) _) _ ((H.below Q).below G) ZT z.o.a.n16 Zx z.o.a.xb z.o.subb).mono ?_;rw[z.o.high,N.o];rintro n YY ⟨rfl,ZD⟩;have R:=au G ZD;have Zs:=ag R ZX;have Zr:=ag R ZW;have Zq:=ag R Z3));all_goals
      have ZQ:=ab (au w R);clear R G Z4;by_cases Y9:A<Z8;all_goals
       go_wp2;go_roundw
       case rel=>exact⟨_,_,_,⟨u+1,E,by go_num,by rw[V.o,N.o,B.o];congr 1;omega,by rw[V.o,N.o,B.o];omega,by rw[V.o,N.o,B.o];omega,ZQ.o⟩,I,I,I⟩
       case measure=>simp[intOf];omega
    ·have ZV:u=y:=E;have ZP:=ab ZV;clear ZV;refine ot ?_;intro e f c d;go_wp2_with fail;refine(gi g _ _ _ b _ (H.below Q) ZO.o Zw).mono ?_;rintro n YX ⟨rfl,x⟩;refine l3 ?_;intro e f c d;have ZE:=au Q x;clear x;go_wp2_with fail;refine sT ?_;rintro n YW ⟨rfl,p⟩;refine h9 ?_;intro e f c d;have Zd:=au ZE p;clear p;go_wp2;refine aK (v:=aL #[ba #[M (bv A (aW b)).num,M (bv A (aW b)).den],aw (bv A (aW b)).ok]) (by simp[aJ,results58,go_sem,c,d]) I ⟨?_,?_⟩
     ·rw[P.o,<- ZP.o,B.o]
     ·exact bB
  ·have P:U (fw g b k v=bb.no):=qz (aP (j0.2 (by have:=L.o;omega)));have Zu:v<0 \/ (0<=v /\ (y:F)<=v):=E;clear Z0;rcases Zu with ZF | ⟨ZF,Zl⟩
   all_goals
    go_enter func58,ntmps58;go_wp2_with fail;refine(qi _ _ _ _ _ _ _ b k _ (H.below D) (K.below D)).mono ?_;rw[C];rintro n j ⟨rfl,i⟩;obtain⟨c,d,e,f⟩:=cj (a.heap.size+1) i ar;have l:ap a j:=dz i;clear i;go_wp2;refine aK (v:=bz 0 0 ak) (by simp[aJ,results58,go_sem,c,d]) I ⟨?_,?_⟩
    ·rw[P.o];rfl
    ·exact bB
theorem Iz (d:ac) (a:aU (ac)) (b c:J):hM d a b (c+1)=max (hM d a b c) (jt d (aO a c) (aO a b)):=rfl
theorem E4 (g R:F) (q ZK:aG) (m r C Zf:J) (b:ac) (y:aU (ac)) (a:af) (Y:an a q m b) (Z4:dj a ZK C y):
  aC 46 #[am g q m r,aa ZK C Zf,M R] a (aL #[ba #[M (fw g b y R).num,M (fw g b y R).den],aw (fw g b y R).ok]):=by
 have ZJ:Below a.heap.size a ((a.alloc (al #[M g,aa q m r] 29)).alloc (al #[M 0,M 0] 55)):=(az a _).alloc ar _;have P:=ab Z4.len;cases Z7:ce g b y
 ·have Z8:U (fw g b y R=bb.no):=qz (bj Z7);go_enter func46,ntmps46;go_wp2_with fail;refine s2 ?_;refine dP ?_;intro j i c d e f l;clear i;go_wp2;exact v6
 ·obtain⟨Z5,Zv,Y8,Yp,ZH⟩:=jk Z7;have Yj:C<=8:=by have:=P.o;omega
  cases D:bi 0 ((y.length:F)-1) R
  ·have Z8:U (fw g b y R=bb.no):=qz (aP D);rw[P.o] at D;go_enter func46,ntmps46;go_wp2_with fail;refine s2 ?_;refine dP ?_;intro j i c d e f l;clear i;go_wp2_with (go_at_call 113;refine(fM _ _ _ _).mono ?_;rw[D];rintro n B ⟨rfl,rfl⟩);exact v6
  ·have Y2:=bM.1 D;obtain⟨u,rfl⟩:∃u:J,R=(u:F):=⟨R.toNat,E⟩;have ZE:u<C:=by have:=P.o;omega
   have Z8:U (fw g b y (u:F)=bv (hM b y u C) (aW b)):=by
    rw[U];unfold fw;rw[Z7,D,P.o];rfl
   rw[P.o] at D;have Zm:=ab D;have ZR:=ab ZH;clear ZH;have ZM:=ab Zv;clear Zv;have ZT:=ab Y.len;have Yl:=Y.cap;obtain⟨_,_,_,Zw,Yg,Yf,_⟩:=cv Z5;have ZN:U (∀u,u<m->0<=O b u /\ O b u<=1000000):= λ u Z6=>Zw u (by rw[ZT.o];exact Z6)
   have Yi:m<=16:=by have:=(cv Z5).2.2.1;have:=ZT.o;omega
   clear Zw Y2 D;go_enter func46,ntmps46;go_wp2_with fail;refine s2 ?_;rintro n j ⟨rfl,i⟩;refine fI ?_;intro c d e f;refine fg ?_;intro s t;refine e5 ?_;intro l;clear i;go_wp2_with (go_at_call 113;refine(fM _ _ _ _).mono ?_;rw[Zm.o];rintro n B ⟨rfl,rfl⟩);go_loopw [8,9] (λ G Q wr=>∃z:J,z<=C /\ Q=M z /\ G=M (hM b y u z) /\ 0<=hM b y u z /\ hM b y u z<=32000000000 /\ ap j wr) (λ _ Q _=>C-(intOf Q).toNat)
   case atStart=>exact⟨0,E,I,I,by show (0:F)<=0;omega,by show (0:F)<=32000000000;omega,Below.refl _ _⟩
   case round =>
    obtain⟨z,Yh,rfl,rfl,YZ,YY,w⟩:=hrel;have X:=au l w;have YS:=ag w s;have YR:=ag w t;have Z1:=ab (Iz b y u z);obtain⟨G,S⟩:∃G,U (hM b y u z=G):=⟨_,I⟩;rw[S.o] at YZ YY;rw[S.o];by_cases Zz:z<C
    ·obtain⟨Yu,Ya,YI,Yy,YH,rfl,Yo,YE,Y7,ZY⟩:=Z4.at X Zz;obtain⟨Yt,X9,Yx,ZS,Ys,ZZ,_,_,Y6,ZX⟩:=Z4.at X ZE;injection ZZ with ZZ
     injection ZZ with Ze Zd
     subst Ze Zd;obtain⟨Zc,ZC⟩:=rD Z5 ZM.o (ZR.o z (by rw[P.o];exact Zz)) (ZR.o u (by rw[P.o];exact ZE)) ZT.o ZY.len ZX.len;subst Zc;have H:=ab ZC;clear ZC;have YX:ZS<=29:=by have:=H.o.a.m4;omega
     have ZD:ZS<=100:=E;have YV:=H.o.a.n1;have YC:(0:F)<=(u:F):=E;have YB:(u:F)<(C:F):=E;have YA:(0:F)<=(z:F):=E;have Yz:(z:F)<(C:F):=E;go_wp2;refine ei 8 ah ah (λ _ _ _ _ _ Zb=>Zb) ?_;refine dY ?_;repeat (first | go_big_quiet_step ((fail)) | quiet_step ((fail)))
     refine et ?_;intro L k;go_wp2_with fail;refine(AI _ _ _ _ _ (aO y z) (aO y u) _ (ZY.below k) (ZX.below k) ZD H.o.a.gb1 H.o.b.gb1).mono ?_;rintro n Zt ⟨YL,rfl,Zy,x⟩;obtain⟨Yw,v,Yr,rfl,ZU⟩:=Zy.ints;have YU:v=ZS:=by rw[<- ZU.len];exact i0 _ _ _
     subst YU;have N:=au (au w k) x;have Zr:=ag N s;have Zq:=ag N t;have Zn:=ab (au l N);have ZQ:=ab N;clear Zy x k N Y7 Y6 YS YR ZY ZX X w;obtain⟨cx,Z9⟩:∃cx,U (dw (aO y z) (aO y u) v=cx):=⟨_,I⟩;rw[Z9.o] at ZU;have Zi:U (∀u,u<v->cr (O cx u)):=by rw[<- Z9.o];exact H.o.subb
     have ZO:U (∀u,u<v->cr (O (ca cx v) u)):=by rw[<- Z9.o];exact H.o.negb
     have ZP:=ab (mp 2000 E b (ca cx v) m ZN.o (λ u Z6=>ZO.o u (by rw[i2] at Z6;exact Z6)));have Zk:U (jt b (aO y z) (aO y u)= -(bS 2000 b (ca cx v) m)):=by rw[<- Z9.o];exact H.o.loss
     have Zg:U (-(bS 2000 b (ca cx v) 1)=0):=by
      show -((0:F)+O b 0*dE 2000 (ca cx v) 0 (ca cx v).length)=0;rw[ZM.o,j9];rfl
     go_wp2;go_loopw [11,12] (λ YJ Q wr=>∃o:J,1<=o /\ o<=m /\ Q=M o /\ YJ=M (-(bS 2000 b (ca cx v) o)) /\ ap Zt wr) (λ _ Q _=>m-(intOf Q).toNat)
     case atStart=>exact⟨1,E,YV,I,by rw[Zg.o],Below.refl _ _⟩
     case round =>
      obtain⟨o,Y8,ZI,rfl,rfl,V⟩:=hrel;have Y9:=au Zn.o V;have Y4:=ag V Zr;have Y3:=ag V Zq;have YP:=ZU.below V;by_cases ZF:o<m
      ·obtain⟨ZL,Zu,rfl,Yn,YD,Y5⟩:=Y.at Y9 ZF;have ZB:=ZN.o o ZF;have ZW:=rn 2000 E (ca cx v) o v ZO.o v aZ;have Y1:=ZW.1;have Y0:=ZW.2;have YW:=lC _ _ ZB.1 ZB.2 Y1 Y0;have ZV:=ZP.o o ZI;have Zj:U (-(bS 2000 b (ca cx v) (o+1))= -(bS 2000 b (ca cx v) o)-O b o*dE 2000 (ca cx v) o v):=by
        show -(bS 2000 b (ca cx v) o+O b o*dE 2000 (ca cx v) o (ca cx v).length)=_;rw[i2];omega
       obtain⟨A,K⟩:∃A,U (dE 2000 (ca cx v) o v=A):=⟨_,I⟩;rw[K.o] at YW;obtain⟨W,Z0⟩:∃W,U (-(bS 2000 b (ca cx v) o)=W):=⟨_,I⟩;have Ye: -32000000000<=W /\ W<=32000000000:=by rw[<- Z0.o];omega
       rw[Z0.o];have Zl:U (∀B q r,an B q v (ca cx v)->aY prog 115 #[M (o:F),aa q v r] B λ Zs Zp=>Zs=aV (M A) /\ B=Zp):= λ B q r Za=>by
        rw[<- K.o];exact tZ o _ _ _ _ _ E Za YX
       have YO:IntKind.i64.wrap (O b o*A)=O b o*A:=bV _ E;have YN:IntKind.i64.wrap (W-O b o*A)=W-O b o*A:=bV _ E;have YG:(0:F)<=(o:F):=E;have YF:(o:F)<(m:F):=E;clear ZW ZV;go_wp2;go_region_held3 (λ B=>B.cell? (ad a.heap.size 0)=Z (M g) /\ B.cell? (ad a.heap.size 1)=Z (aa (Z ⟨ZL,Zu,aj⟩) m r) /\ B.cell? ⟨ZL,Zu+o,aj⟩=Z (M (O b o)) /\ ap wr B) (first | (refine⟨by assumption,by assumption,by assumption,by assumption⟩;done) | (refine⟨by simp[*],by simp[*],by simp[*],?_⟩;exact bB;done)) (first | (go_at_call 116;refine(Ax _ _ _ cx _ (YP.below (bI _)) ZD Zi.o).mono ?_;rintro n YK ⟨YL,rfl,YQ,p⟩;obtain⟨Yv,YM,Yq,rfl,Zx⟩:=YQ.ints;have YT:YM=v:=(by rw[<- Zx.len];exact i2 _ _);subst YT;have T:=au (bI wr) p;have Yd:=ag T Y4;have Yc:=ag T Y3;have Yb:=ag T Y5) | (go_at_call 115;refine(Zl.o _ _ _ Zx).mono ?_;rintro n X8 ⟨rfl,rfl⟩));all_goals
        have Z3:=ab (au V T);clear T p YO YN;go_wp2;go_roundw
        case rel=>exact⟨o+1,E,E,by go_num,by rw[Zj.o,Z0.o,K.o],Z3.o⟩
        case measure=>simp[intOf];omega
      ·have ZG:o=m:=E;have Zo:=ab ZG;have ZV:=ZP.o o ZI;obtain⟨A,K⟩:∃A,U (-(bS 2000 b (ca cx v) o)=A):=⟨_,I⟩;have Yk: -32000000000<=A /\ A<=32000000000:=by rw[<- K.o];omega
       have Z2:U (jt b (aO y z) (aO y u)=A):=by rw[U,Zk.o,<- K.o,Zo.o]
       rw[K.o];have Z3:=ab (ZQ.o.trans (V.mono ZQ.o.size));clear ZG ZV;by_cases Ym:G<A;all_goals
        go_wp2;go_roundw
        case rel=>exact⟨z+1,E,by go_num,by rw[Z1.o,Z2.o,S.o];congr 1;omega,by rw[Z1.o,Z2.o,S.o];omega,by rw[Z1.o,Z2.o,S.o];omega,Z3.o⟩
        case measure=>simp[intOf];omega
    ·have ZA:z=C:=E;have Zh:=ab ZA;clear ZA;refine ot ?_;intro e f c d;go_wp2_with fail;refine(hn g _ _ _ b _ (Y.below X) Z5).mono ?_;rintro n Zt ⟨rfl,x⟩;refine l3 ?_;intro e f c d;have N:=au X x;clear x;go_wp2_with fail;refine sS ?_;rintro n YK ⟨rfl,p⟩;refine h9 ?_;intro e f c d;have T:=au N p;clear p;go_wp2;refine aK (v:=aL #[ba #[M (bv G (aW b)).num,M (bv G (aW b)).den],aw (bv G (aW b)).ok]) (by simp[aJ,results46,go_sem,c,d]) I ⟨?_,?_⟩
     ·rw[Z8.o,<- Zh.o,S.o]
     ·exact bB
end Go.Proofs.YtkjnhlpccgjfhaaGreatDoor
