/- A part of the proof: lemmas (my texts, shortened by a program of mine). -/
import Derived.Test.YtkjnhlpccgjfhaaGreatDoorC26
import Derived.Test.YtkjnhlpccgjfhaaGreatDoorC27
set_option linter.all false
set_option maxRecDepth 100000
set_option maxHeartbeats 4000000
namespace Go.Proofs.YtkjnhlpccgjfhaaGreatDoor
open Go.RowKit
open Go.Proofs.Tryz
open Bool renaming and_eq_true->b9,false->ak,true->ae,true_and->eo
open Go renaming Calls->aY,Value->ay,World->af,bodyPost_ret->aK,results->aJ,wpQuiet_nil->dn
open Go.Act renaming put->aT
open Go.Ending renaming returned->aV
open Go.IntWalk renaming i64_in->bV
open Go.Obj renaming cells->al
open Go.Value renaming agg->ba,bool->aw,int->ed,slice->aa,string->aE,tuple->aL
open Go.World renaming block_lt_of_cell?->fX,cell?_setCell_far->dI,cell?_setCell_other->c3,cell?_setCell_same->fZ,drew->dH,ownsRow_lit->fF
open Go.World.ownsRow renaming lt->fs
open Int renaming toNat_natCast->cI
open List renaming length_append->dm,map_append->g7
open Nat renaming and_le_left->kf,le_refl->bL,lt_of_le_of_lt->jB
open Option renaming none->aj,some->Z
open _root_ renaming Int->F,Nat->J,absurd->bC,beq_eq_false_iff_ne->dx,decide_eq_false->iP,decide_eq_true->fW,decide_eq_true_iff->mK,if_neg->aF,if_pos->a7,rfl->I
variable {p q:Prop}
def fT (b:F) (c:ac) (a:F):bc:=if b4 b a then nT b c a.toNat else bc.no
def gS (b:F) (c:ac) (a:F):bc:=if b4 b a then lA b c a.toNat else bc.no
def fq (b:F) (c:ac) (a:F):bb:=if b4 b a then jy c a.toNat else bb.no
theorem lh {a:F} {b:J} (f:bK a=ae):b4 a (b:F)=decide (b<aH a):=by
 have d:b4 a (b:F)=bi 0 ((aH a:F)-1) (b:F):=by simp[b4,f]
 rw[d];by_cases c:b<aH a
 ·rw[fW c];exact bM.2 E
 ·rw[iP c];cases e:bi 0 ((aH a:F)-1) (b:F)
  ·rfl
  ·have:=bM.1 e;omega
theorem Ja (a:F) (c:J) (g:aG) (j l:J) (f:ac) (b:af) (q:an b g j f) (e:aI a f=ae) (i:b4 a (c:F)=ak):
  bp 130 #[am a g j l,M c] b bc.no:=by
 have y:=(bt e).1;have p:bi 0 ((aH a:F)-1) (c:F)=ak:=by simpa [b4,y] using i
 have k:=ab e;clear e i;go_enter func130,ntmps130;go_wp2_with fail;refine(cn _ _ _ _ f _ (q.below aD)).mono ?_;rw[k.o];rintro m r ⟨rfl,d⟩;obtain⟨n,o,t,u⟩:=cj (b.heap.size+1+1) d ar;have x:=aS d b.heap.size 0 (M a);have w:=aS d (b.heap.size+1) 0 (M c);have v:ap b r:=bJ d;clear d;go_wp2_with (go_at_call 140;refine(fh a c _ y).mono ?_;rw[p];rintro m s ⟨rfl,rfl⟩);refine aK (v:=aL #[am 0 aj 0 0,aw ak]) (by simp[aJ,results130,go_sem,n,o]) I ⟨?_,?_⟩
 ·exact b1.no _ _
 ·exact aD
theorem HU (a:F) (c:J) (g:aG) (j l:J) (f:ac) (b:af) (q:an b g j f) (e:aI a f=ae) (i:b4 a (c:F)=ak):
  bp 132 #[am a g j l,M c] b bc.no:=by
 have x:=(bt e).1;have p:bi 0 ((aH a:F)-1) (c:F)=ak:=by simpa [b4,x] using i
 have k:=ab e;clear e i;go_enter func132,ntmps132;go_wp2_with fail;refine(cn _ _ _ _ f _ (q.below aD)).mono ?_;rw[k.o];rintro m r ⟨rfl,d⟩;obtain⟨n,o,t,u⟩:=cj (b.heap.size+1) d ar;have w:=aS d b.heap.size 0 (M a);skip;have v:ap b r:=bJ d;clear d;go_wp2_with (go_at_call 140;refine(fh a c _ x).mono ?_;rw[p];rintro m s ⟨rfl,rfl⟩);refine aK (v:=aL #[am 0 aj 0 0,aw ak]) (by simp[aJ,results132,go_sem,n,o]) I ⟨?_,?_⟩
 ·exact b1.no _ _
 ·exact aD
theorem EO (a:F) (c:J) (g:aG) (j l:J) (f:ac) (b:af) (s:an b g j f) (e:aI a f=ae) (i:b4 a (c:F)=ak):
  aC 235 #[am a g j l,M c] b (bz 0 0 ak):=by
 have x:=(bt e).1;have r:bi 0 ((aH a:F)-1) (c:F)=ak:=by simpa [b4,x] using i
 have k:=ab e;clear e i;go_enter func235,ntmps235;go_wp2_with fail;refine(cn _ _ _ _ f _ (s.below aD)).mono ?_;rw[k.o];rintro m t ⟨rfl,d⟩;obtain⟨p,q,n,o⟩:=cj (b.heap.size+1) d ar;have w:=aS d b.heap.size 0 (M a);skip;have v:ap b t:=bJ d;clear d;go_wp2_with (go_at_call 140;refine(fh a c _ x).mono ?_;rw[r];rintro m u ⟨rfl,rfl⟩);refine aK (v:=bz 0 0 ak) (by simp[aJ,results235,go_sem,p,q,n,o]) I ⟨?_,?_⟩
 ·rfl
 ·exact aD
theorem H9 (a:F) (b:J) (e:aG) (f h:J) (c:ac) (g:af) (k:an g e f c) (j:aI a c=ae):
  bp 130 #[am a e f h,M b] g (fT a c b):=by
 cases d:b4 a (b:F)
 ·have i:fT a c b=bc.no:=by unfold fT;rw[d];rfl
  rw[i];exact Ja a b e f h c g k j d
 ·have i:fT a c b=nT a c b:=by unfold fT;rw[d];simp
  rw[lh (bt j).1,mK] at d;rw[i];exact I9 a b e f h c g k j d
theorem GC (a:F) (b:J) (e:aG) (f h:J) (c:ac) (g:af) (k:an g e f c) (j:aI a c=ae):
  bp 132 #[am a e f h,M b] g (gS a c b):=by
 cases d:b4 a (b:F)
 ·have i:gS a c b=bc.no:=by unfold gS;rw[d];rfl
  rw[i];exact HU a b e f h c g k j d
 ·have i:gS a c b=lA a c b:=by unfold gS;rw[d];simp
  rw[lh (bt j).1,mK] at d;rw[i];exact GY a b e f h c g k j d
theorem Ff (c:F) (b:J) (e:aG) (g i:J) (a:ac) (h:af) (k:an h e g a) (d:aI c a=ae):
  aC 235 #[am c e g i,M b] h (aL #[ba #[M (fp c a b).num,M (fp c a b).den],aw (fp c a b).ok]):=by
 cases f:b4 c (b:F)
 ·have j:fp c a b=bb.no:=by exact CZ (by rw[f];simp)
  rw[j];exact EO c b e g i a h k d f
 ·have l:=f;rw[lh (bt d).1,mK] at l;have j:fp c a b=bv (a9 (bm (bU b)) a a.length) (aW a):=by exact Cq (by rw[f,d];rfl)
  rw[j];exact EL c b e g i a h k d (by have:=(bt d).2.1;omega)
theorem HV (b:F) (a:J) (f:aG) (h j:J) (c:ac) (i:af) (k:an i f h c) (e:aI b c=ae):
  aC 236 #[am b f h j,M a] i (aL #[ba #[M (fq b c a).num,M (fq b c a).den],aw (fq b c a).ok]):=by
 cases g:b4 b (a:F)
 ·have d:fq b c a=bb.no:=by unfold fq;rw[g];rfl
  rw[d];exact Ar b a f h j c i k e λ d=>by
   have m:bi 0 ((aH b:F)-1) a=ak:=by simpa [b4,(bt e).1] using g
   rw[m] at d;cases d
 ·have l:=g;rw[lh (bt e).1,mK] at l;have d:fq b c a=jy c a:=by unfold fq;rw[g];simp
  rw[d];exact HP b a f h j c i k e (by have:=(bt e).2.1;omega)
theorem EP (ZK:F) (e:J) (Z8:aG) (T n:J) (a:ac) (d:af) (y:an d Z8 T a) (G:aI ZK a=ae) (ZZ:e<a.length) (Z6:1<=aW a-O a 0):
  aC 28 #[am ZK Z8 T n,M e] d (aL #[ba #[M (bv (cP a e a.length) (12*(aW a-O a 0))).num,M (bv (cP a e a.length) (12*(aW a-O a 0))).den],aw (bv (cP a e a.length) (12*(aW a-O a 0))).ok]):=by
 have Z4:=ab G;obtain⟨S,ZY,N,K,ZV,ZU,_⟩:=bt G;have ZS:=b8 S;have Z5:(aI ZK a&&b4 ZK (e:F))=ae:=by rw[G,lh S,fW E];rfl
 obtain rfl:T=a.length:=y.len.symm;have Z7:=kt a e a.length N K a.length aZ;have ZX:=K 0 E;obtain⟨c,P⟩:∃c,a.length=c:=⟨_,I⟩;rw[P] at y N ZZ Z7 ⊢;have Z3:U (∀z,z<c->0<=O a z /\ O a z<=1000000):=by show ∀z,z<c->_;rw[<- P];exact K
 have Z0:0<c:=E;obtain⟨t,B⟩:∃t,cP a e c=t:=⟨_,I⟩;obtain⟨f,C⟩:∃f,aW a=f:=⟨_,I⟩;obtain⟨l,L⟩:∃l,O a 0=l:=⟨_,I⟩;rw[B] at Z7;rw[B,C,L];rw[C] at ZV ZU Z6;rw[L] at ZX Z6;have ZO:IntKind.i64.wrap (f-l)=f-l:=bV _ E;have ZN:IntKind.i64.wrap (12*(f-l))=12*(f-l):=bV _ E;have ZP:(f==l)=ak:=by simp;omega
 obtain⟨i,k,rfl,ZR,ZQ,Q⟩:=y.at bA Z0;rw[Nat.add_zero,L] at Q;have X:U (∀b,an b (Z ⟨i,k,aj⟩) c a->aC 75 #[am ZK (Z ⟨i,k,aj⟩) c n,M e] b (aw ae)):= λ b w=>by rw[<- Z5];exact i1 _ _ _ _ _ a _ w
 have Y:U (∀b,an b (Z ⟨i,k,aj⟩) c a->aC 78 #[am ZK (Z ⟨i,k,aj⟩) c n,M e] b (M t)):= λ b w=>by rw[<- B];exact tU _ _ _ _ e a b w N E E Z3.o
 have A:U (∀b,an b (Z ⟨i,k,aj⟩) c a->aC 76 #[am ZK (Z ⟨i,k,aj⟩) c n] b (M f)):= λ b w=>by rw[<- C];exact hn _ _ _ _ a b w Z4.o
 obtain⟨r,R⟩:∃ZW,bv t (12*(f-l))=ZW:=⟨_,I⟩;rw[R];have Z9:U (∀b,aC 77 #[M t,M (12*(f-l))] b (bz r.num r.den r.ok)):= λ b=>by rw[<- R];exact oD _ _ b E E E E E
 have x:Below d.heap.size d ((d.alloc (al #[M ZK,aa (Z ⟨i,k,aj⟩) c n] 29)).alloc (al #[M 0,M 0] 55)):=aD;have q:=y.below x;have D:=ag x Q;clear G S ZY K B C L P R Z5 Q;go_enter func28,ntmps28;go_wp2_with fail;obtain⟨m,j⟩:∃m,(d.alloc (al #[M ZK,aa (Z ⟨i,k,aj⟩) c n] 29)).alloc (al #[M 0,M 0] 55)=m:=⟨_,I⟩;rw[j];rw[j] at x q D;have V: m.cell? (ad d.heap.size 0)=Z (M ZK):=by rw[<- j];simp
 have W: m.cell? (ad d.heap.size 1)=Z (aa (Z ⟨i,k,aj⟩) c n):=by rw[<- j];simp
 have o: m.cell? (ad (d.heap.size+1) 0)=Z (M 0):=by rw[<- j];simp
 have p: m.cell? (ad (d.heap.size+1) 1)=Z (M 0):=by rw[<- j];simp
 have u: m.frozen? (ad (d.heap.size+1) 0)=ak:=by rw[<- j];simp
 have v: m.frozen? (ad (d.heap.size+1) 1)=ak:=by rw[<- j];simp
 clear j y;refine gj ah ah ?_;repeat (first | go_big_quiet_step ((first | (go_at_call 75;(with_reducible exact aQ (X.o _ (q.below (aM _ _))))) | (go_at_call 76;(with_reducible exact aQ (A.o _ (q.below (aM _ _))))))) | quiet_step ((first | (go_at_call 75;(with_reducible exact aQ (X.o _ (q.below (aM _ _))))) | (go_at_call 76;(with_reducible exact aQ (A.o _ (q.below (aM _ _))))))))
 refine dn ?_;refine dg ?_;intro ZM g;have H:=q.below g;replace u:=aB g o u;replace v:=aB g p v;replace o:=ag g o;replace p:=ag g p;replace V:=ag g V;replace W:=ag g W;replace D:=ag g D;have Z1:=au x g;clear g q x;go_wp2_with fail;refine ei 14 ah ah (λ _ _ _ _ _ Z2=>Z2) ?_;simp only[List.take_succ_cons,List.take_zero,List.drop_succ_cons,List.drop_zero];repeat (first | go_big_quiet_step ((first | (go_at_call 78;(with_reducible exact aQ (Y.o _ (H.below (aM _ _))))) | (go_at_call 76;(with_reducible exact aQ (A.o _ (H.below (aM _ _))))) | (go_at_call 77;(with_reducible exact aQ (Z9.o _))))) | quiet_step ((first | (go_at_call 78;(with_reducible exact aQ (Y.o _ (H.below (aM _ _))))) | (go_at_call 76;(with_reducible exact aQ (A.o _ (H.below (aM _ _))))) | (go_at_call 77;(with_reducible exact aQ (Z9.o _))))))
 refine dn ?_;refine dg ?_;intro ZL s;replace u:=aB s o u;replace v:=aB s p v;replace o:=ag s o;replace p:=ag s p;have ZT:=au Z1 s;clear s V W D;go_wp2;refine aK (v:=bz r.num r.den r.ok) (by simp[aJ,results28,go_sem,o,p,u,v]) I ⟨?_,?_⟩
 ·rfl
 ·exact aD
theorem Du (e:F) (n:J) (S:aG) (L o:J) (a:ac) (c:af) (q:an c S L a) (x:aI e a=ae) (T:b4 e (n:F)=ae->aW a=O a 0):
  aC 28 #[am e S L o,M n] c (bz 0 0 ak):=by
 have Z7:=ab x;obtain⟨Y,Z5,V,r,Z3,Z2,_⟩:=bt x;have ZX:=b8 Y;obtain⟨m,y⟩:∃m,(aI e a&&b4 e (n:F))=m:=⟨_,I⟩;have ZS:m=ae->aW a=O a 0:= λ z=>T (by rw[z,x,eo] at y;exact y)
 clear T;obtain rfl:L=a.length:=q.len.symm;have X:=kt a n a.length V r a.length aZ;have Z4:=r 0 E;have ZZ:=ab r;obtain⟨b,w⟩:∃b,a.length=b:=⟨_,I⟩;rw[w] at q V X ⊢;have Z0:=ab w;have Z1:U (∀s,s<b->0<=O a s /\ O a s<=1000000):=by show ∀s,s<b->_;rw[<- w];exact r
 have Z6:0<b:=E;obtain⟨P,W⟩:∃P,cP a n b=P:=⟨_,I⟩;obtain⟨t,C⟩:∃t,aW a=t:=⟨_,I⟩;obtain⟨N,K⟩:∃N,O a 0=N:=⟨_,I⟩;rw[W] at X;rw[C] at Z3 Z2 ZS;rw[K] at Z4 ZS;have H:m=ae->(N==t)=ae:= λ z=>by have:=ZS z;simp;omega
 clear ZS;obtain⟨j,l,rfl,ZW,ZV,D⟩:=q.at bA Z6;rw[Nat.add_zero,K] at D;have Q:U (∀g,an g (Z ⟨j,l,aj⟩) b a->aC 75 #[am e (Z ⟨j,l,aj⟩) b o,M n] g (aw m)):= λ g ZS=>by rw[<- y];exact i1 _ _ _ _ _ a _ ZS
 have R:U (∀g,an g (Z ⟨j,l,aj⟩) b a->aC 76 #[am e (Z ⟨j,l,aj⟩) b o] g (M t)):= λ g ZS=>by rw[<- C];exact hn _ _ _ _ a g ZS Z7.o
 have p:Below c.heap.size c ((c.alloc (al #[M e,aa (Z ⟨j,l,aj⟩) b o] 29)).alloc (al #[M 0,M 0] 55)):=aD;have k:=q.below p;have G:=ag p D;clear x Y Z5 r W C K w y D;cases m;all_goals
  first | (replace H:=H rfl) | (clear H)
  go_enter func28,ntmps28;go_wp2_with fail;obtain⟨i,f⟩:∃i,(c.alloc (al #[M e,aa (Z ⟨j,l,aj⟩) b o] 29)).alloc (al #[M 0,M 0] 55)=i:=⟨_,I⟩;rw[f];rw[f] at p k G;have Z9: i.cell? (ad c.heap.size 0)=Z (M e):=by rw[<- f];simp
  have Z8: i.cell? (ad c.heap.size 1)=Z (aa (Z ⟨j,l,aj⟩) b o):=by rw[<- f];simp
  have u: i.cell? (ad (c.heap.size+1) 0)=Z (M 0):=by rw[<- f];simp
  have v: i.cell? (ad (c.heap.size+1) 1)=Z (M 0):=by rw[<- f];simp
  have A: i.frozen? (ad (c.heap.size+1) 0)=ak:=by rw[<- f];simp
  have B: i.frozen? (ad (c.heap.size+1) 1)=ak:=by rw[<- f];simp
  clear f q;refine gj ah ah ?_;repeat (first | go_big_quiet_step ((first | (go_at_call 75;(with_reducible exact aQ (Q.o _ (k.below (aM _ _))))) | (go_at_call 76;(with_reducible exact aQ (R.o _ (k.below (aM _ _))))))) | quiet_step ((first | (go_at_call 75;(with_reducible exact aQ (Q.o _ (k.below (aM _ _))))) | (go_at_call 76;(with_reducible exact aQ (R.o _ (k.below (aM _ _))))))))
  refine dn ?_;refine dg ?_;intro ZT d;have ZU:=k.below d;replace A:=aB d u A;replace B:=aB d v B;replace u:=ag d u;replace v:=ag d v;replace Z9:=ag d Z9;replace Z8:=ag d Z8;replace G:=ag d G;have ZY:=au p d;clear d k p;go_wp2;refine aK (v:=bz 0 0 ak) (by simp[aJ,results28,go_sem,u,v,A,B]) I ⟨?_,?_⟩
  ·rfl
  ·exact aD
theorem EQ (c:F) (b:J) (f:aG) (h j:J) (a:ac) (i:af) (l:an i f h a) (e:aI c a=ae):
  aC 28 #[am c f h j,M b] i (aL #[ba #[M (fq c a b).num,M (fq c a b).den],aw (fq c a b).ok]):=by
 cases g:b4 c (b:F)
 ·have d:fq c a b=bb.no:=by unfold fq;rw[g];rfl
  rw[d];exact Du c b f h j a i l e λ d=>by rw[g] at d;cases d
 ·have m:=g;rw[lh (bt e).1,mK] at m;have n:b<a.length:=by have:=(bt e).2.1;omega
  by_cases k:aW a=O a 0
  ·have d:fq c a b=bb.no:=by unfold fq;rw[g];simp only[if_true,cI];unfold jy;rw[a7 k]
   rw[d];exact Du c b f h j a i l e λ _=>k
  ·have d:fq c a b=bv (cP a b a.length) (12*(aW a-O a 0)):=by unfold fq;rw[g];simp only[if_true,cI];unfold jy;rw[aF k]
   rw[d];exact EP c b f h j a i l e n (by have:=(rz e 0).2.2.2.2;omega)
theorem FZ (g:F) (b:J) (q:aG) (m r:J) (j:ac) (a:af) (K:an a q m j) (Z0:aI g j=ae):
  bp 200 #[am g q m r,M b] a (fT g j (b:F)):=by
 cases H:aI g j&&b4 g b
 ·have N:U (fT g j (b:F)=bc.no):=by show fT g j (b:F)=bc.no;rw[Z0,eo] at H;unfold fT;rw[H];rfl
  rw[N.o];go_enter func200,ntmps200;go_wp2_with fail;refine(i1 g b _ _ _ j _ (K.below aD)).mono ?_;rw[H];rintro V k ⟨rfl,i⟩;refine fI ?_;intro c d e f;refine ic ?_;intro l;clear i;go_wp2;refine aK (v:=aL #[am 0 aj 0 0,aw ak]) (by simp[aJ,results200,go_sem,c,d]) I ⟨?_,?_⟩
  ·exact b1.no _ _
  ·exact aD
 ·have Z7:=H;rw[b9] at Z7;obtain⟨W,w⟩:=Z7;obtain⟨o,Z1,ZM,S,_,_,_⟩:=bt W;have G:=K.len;have ZJ:=b8 o;refine mU ?_;intro v;obtain⟨n,ZX⟩:∃n:J,n=b:=⟨b,I⟩;subst ZX;have ZY:n<m:=by have:=bM.1 v;omega
  have R:∀X,X<m->n&&&X<m:= λ X K=>jB kf ZY
  have N:U (fT g j (n:F)=bh g (bF (λ p=>n&&&p) j m m)):=by
   show fT g j (n:F)=_;have ZZ:aH g=m:=E;unfold fT;rw[w,a7 rfl,cI];unfold nT;rw[G,ZZ]
  refine yM ?_;intro L P T y;have Z5:=Bx W;have Y:U (∀u,u<m->0<=O (bF (λ p=>n&&&p) j m m) u /\ O (bF (λ p=>n&&&p) j m m) u<=1000000):= λ u D=>by
   exact xS
  have Z4:=ab H;refine yG ?_;intro A z C;rw[C] at y Y z ⊢;clear Z1 G S H W w v R C;go_enter func200,ntmps200;go_wp2_with fail;refine(i1 g n _ _ _ j _ (K.below aD)).mono ?_;rw[Z4.o];rintro V k ⟨rfl,i⟩;refine fI ?_;intro c d e f;refine fg ?_;intro s t;refine ic ?_;intro l;have ZI:a.heap.size+1<k.heap.size:=b6 c;clear i;go_wp2_with fail;go_region_held3 (λ x=>x.cell? (ad a.heap.size 0)=Z (M g) /\ x.cell? (ad a.heap.size 1)=Z (aa q m r)) (first | (refine⟨by assumption,by assumption⟩;done) | (refine⟨by simp[*],by simp[*]⟩;done) | go_keep) (first | (go_at_call 294;refine(z.o _ ((K.below l).below (bI k))).mono ?_;rintro V ZD ⟨⟨ZE,rfl,ZW⟩,Z3⟩;obtain⟨ZN,ZO,Z9,_,_,Z8⟩:=ZW.form (by rw[y.o];omega);rw[y.o] at Z9 Z8;subst Z9;have Q:=au (bI k) Z3;have ZV:=ag Q s;have ZU:=ag Q t) | (go_at_call 171;refine(hk g _ _ _ A _ Z8 P (λ u D=>by have:=Y.o u D;omega)).mono ?_;rintro V ZC ⟨⟨ZF,rfl,Z6⟩,Z2⟩;obtain⟨ZQ,ZG,ZP,rfl,ZK⟩:=Z6.ints;have B:=au Q Z2;have ZV:=ag B s;have ZU:=ag B t;have e:=aB B c e;have f:=aB B d f;have c:=ag B c;have d:=ag B d));all_goals
   have ZL:=au l B;have ZH:=Q.size;go_wp2;refine aK (by simp[aJ,results200,go_sem,c,d]) I ⟨⟨_,I,((Z6.setBelow (by simp;omega) _).setBelow (by simp;omega) _).mono E⟩,?_⟩;exact aD
theorem ER (k:F) (g:J) (x:aG) (j A:J) (i:ac) (a:af) (N:an a x j i) (K:aI k i=ae) (ZR:g<aH k):
  bp 202 #[am k x j A,M g] a (lA k i g):=by
 obtain⟨Z4,ZK,ZT,X,_,_,_⟩:=bt K;have Z9:=N.len;have Zt:=b8 Z4;have Z8:(aI k i&&b4 k (g:F))=ae:=by rw[K,lh Z4,fW ZR];rfl
 have ZY:=ab Z8;have ZX:U (lA k i g=bh k (el i g j j)):=by rw[U,<- Z9];rfl
 rw[ZX.o];have Z0:U (∀b,b<j->0<=O i b /\ O i b<=1000000):= λ b ZM=>X b E
 have ZJ:j<=16:=E;have ZQ:g<16:=E;have ZG:=N.below (w':=(a.alloc (al #[M k,aa x j A] 29)).alloc (al #[M 0,aa aj 0 0] 29)) ((az a _).alloc ar _);have Zu:1<=j:=E;clear X ZK Z9 ZT K Z8;go_enter func202,ntmps202;go_wp2_with fail;refine(i1 k g _ _ _ i _ ZG).mono ?_;rw[ZY.o];rintro n S ⟨rfl,t⟩;obtain⟨c,d,e,f⟩:=cj (a.heap.size+1) t ar;have Z7:=aS t a.heap.size 0 (M k);have Z6:=aS t a.heap.size 1 (aa x j A);have ZS:ap a S:=dz t;have ZF:a.heap.size+1<S.heap.size:=b6 c;clear t;go_wp2_with (first | (at_make;refine e6 rfl _ _ rfl j _ _ rfl rfl rfl rfl E ?_;intro Z1 L l ZE;(have T:=ag l Z7);(have W:=ag l Z6);(have G:=ag l c);(have H:=ag l d);(have P:=aB l c e);(have Q:=aB l d f)));have V:=au ZS l;clear Z7 Z6 c d e f l;obtain⟨m,o⟩:∃m,S.heap.size=m:=⟨_,I⟩;rw[o] at L ZE ZF ⊢;clear o;have ZI:av Z1 m (aq m j j) (el i g j 1):=by rw[qA,aF (λ B=>B.1 rfl)];exact L
 clear L;go_loopw [7] (λ R wr=>∃b:J,1<=b /\ b<=j /\ R=M b /\ av wr m (aq m j j) (el i g j b) /\ Z1.grownBy wr (Z m)) (λ R _=>j-(intOf R).toNat)
 case atStart=>exact⟨1,E,E,I,ZI,hI _ _⟩
 case round =>
  obtain⟨b,Zx,ZM,rfl,u,o⟩:=hrel;refine mX ?_;intro s;have Zq:=cW o T E;have Zp:=cW o W E;by_cases D:b<j
  ·have Zz:(0:F)<=(b:F):=E;have Zy:(b:F)<(j:F):=E;obtain⟨ZC,Zr,rfl,_,_,ZO⟩:=N.at s D;have r:=ab (qA i g j b);have C:=A4 ⟨g,ZQ⟩ ⟨b,E⟩;simp only at C;obtain⟨ZP,ZN,_⟩:=u.cellAt D;obtain⟨y,Z2⟩:∃y,O i b=y:=⟨_,I⟩;rw[Z2] at ZO r;clear Z2;have ZL:b≠0:=E
   ·have Zw:((b:F)==0)=ak:=by rw[dx];omega
    have Zv:((b:F) != 0)=ae:=by rw[bne_iff_ne];omega
    by_cases q:b&&&g=b
    ·have z:U (el i g j (b+1)=(el i g j b).set b y):=by rw[U,r.o,a7 ⟨ZL,q⟩]
     rw[fW q] at C;obtain⟨Zn,Z3,ZH,Y⟩:=dC u D y;have ZZ:=ab (eO o Y);have ZW:=ab Z3;clear Z3 Y u o r q;go_wp2;rw[ZW.o];go_roundw
     case rel=>exact⟨b+1,E,E,by go_num,by rw[z.o];exact ZH,ZZ.o⟩
     case measure=>simp[intOf];omega
    ·have z:U (el i g j (b+1)=el i g j b):=by rw[U,r.o,aF (λ B=>q B.2)]
     rw[iP q] at C;clear ZP ZN r q;go_wp2;go_roundw
     case rel=>exact⟨b+1,E,E,by go_num,by rw[z.o];exact u,o⟩
     case measure=>simp[intOf];omega
  ·obtain rfl:b=j:=E;refine l5 ?_;intro e f c d;have Zs:=o.size;refine yS ?_;intro v;clear o T W G H P Q;go_wp2_with fail;refine(hk _ _ _ _ (el i g b b) _ u.view ZJ v.o).mono ?_;rintro n Zm ⟨⟨Zo,rfl,Z5⟩,p⟩;obtain⟨ZV,ZD,ZU,rfl,ZA⟩:=Z5.ints;refine h9 ?_;intro e f c d;have ZB:=au s p;clear p;go_wp2;refine aK (v:=aL #[ba #[M (bh k (el i g b b)).size,aa ZV ZD ZU],aw (bh k (el i g b b)).ok]) (by simp[aJ,results202,go_sem,c,d,e,f]) I ⟨?_,?_⟩
   ·exact⟨_,I,(((Z5.mono (base':=a.heap.size+1+1) E).setBelow bO _).setBelow bO _).mono E⟩
   ·exact aD
theorem Fg (b:F) (g:J) (o:aG) (p q:J) (j:ac) (a:af) (s:an a o p j) (r:aI b j=ae):
  bp 202 #[am b o p q,M g] a (gS b j g):=by
 cases m:b4 b (g:F)
 ·have n:gS b j g=bc.no:=by unfold gS;rw[m];rfl
  have t:(aI b j&&b4 b (g:F))=ak:=by rw[m];simp
  rw[n];go_enter func202,ntmps202;go_wp2_with fail;refine(i1 b g _ _ _ j _ (s.below aD)).mono ?_;rw[t];rintro n k ⟨rfl,i⟩;refine fI ?_;intro c d e f;refine ic ?_;intro l;clear i;go_wp2;refine aK (v:=aL #[am 0 aj 0 0,aw ak]) (by simp[aJ,results202,go_sem,c,d]) I ⟨?_,?_⟩
  ·exact b1.no _ _
  ·exact aD
 ·have n:gS b j g=lA b j g:=by unfold gS;rw[m];simp
  rw[lh (bt r).1,mK] at m;rw[n];exact ER b g o p q j a s r m
theorem F0 (r:F) (m:aG) (G t:J) (b:ac) (l:af) (o:an l m G b) (z:aI r b=ae):
  aC 29 #[am r m G t] l (aL #[ba #[M (bv (er b b.length) (aW b)).num,M (bv (er b b.length) (aW b)).den],aw (bv (er b b.length) (aW b)).ok]):=by
 obtain⟨A,ZW,Y,B,ZT,ZS,_⟩:=bt z;obtain rfl:G=b.length:=o.len.symm;have s:=ab (B1 Y B);obtain⟨g,v⟩:∃g,b.length=g:=⟨_,I⟩;rw[v] at o Y s ⊢;have Z1:U (∀a,a<g->0<=O b a /\ O b a<=1000000):=by show ∀a,a<g->_;rw[<- v];exact B
 obtain⟨j,w⟩:∃j,aW b=j:=⟨_,I⟩;rw[w] at ZT ZS ⊢;have V:=ab z;have Z2:U (∀q,an q m g b->aC 76 #[am r m g t] q (M j)):= λ q Z0=>by rw[<- w];exact hn _ _ _ _ b q Z0 V.o
 clear ZW B w v z A;go_enter func29,ntmps29;go_wp2_with fail;refine(dA _ _ _ _ b _ (o.below aD)).mono ?_;rw[V.o];rintro X Z7 ⟨rfl,n⟩;obtain⟨c,d,e,f⟩:=cj (l.heap.size+1) n ar;have H:=aS n l.heap.size 0 (M r);have K:=aS n l.heap.size 1 (aa m g t);have ZZ:ap l Z7:=bJ n;have R:=c;have S:=d;have Z6:=e;have Z5:=f;have Z4:=H;have Z3:=K;clear n c d e f H K;go_wp2_with fail;go_loopw [4,5] (λ ZR D wr=>∃a:J,a<=g /\ D=M a /\ ZR=M (er b a) /\ ap Z7 wr) (λ _ D _=>g-(intOf D).toNat)
 case atStart=>exact⟨0,E,I,I,Below.refl _ _⟩
 case round =>
  obtain⟨a,ZG,rfl,rfl,i⟩:=hrel;have u:=au ZZ i;have H:=ag i Z4;have K:=ag i Z3;by_cases Z9:a<g
  ·obtain⟨ZQ,ZJ,rfl,_,_,ZM⟩:=o.at u Z9;have Z8:=Z1.o a Z9;have A:=s.o a ZG;have ZN:=nO a E;have W:U (er b (a+1)=er b a+O b a*(cw a:F)):=rfl;have ZL:(0:F)<=(a:F):=E;have ZK:(a:F)<(g:F):=E;generalize O b a=N at *;have y:0<=(cw a:F) /\ (cw a:F)<=4:=E;have T:=ab (oI a);generalize (cw a:F)=P at *;have ZV:=Int.mul_nonneg Z8.1 y.1;have ZU:N*P<=4000000:=by have:=Int.mul_le_mul Z8.2 y.2 y.1 (by omega:(0:F)<=1000000);omega
   obtain⟨Q,C⟩:∃Q,N*P=Q:=⟨_,I⟩;have ZP:IntKind.i64.wrap (N*P)=Q:=by rw[C];exact bV _ E
   rw[C] at W ZV ZU;clear C;go_wp2;refine cC ?_;repeat (first | go_big_quiet_step ((go_at_call 79;(with_reducible exact ej (T.o _ E)))) | quiet_step ((go_at_call 79;(with_reducible exact ej (T.o _ E)))))
   refine et ?_;intro L k;have ZY:=au i k;go_wp2;go_roundw
   case rel=>exact⟨a+1,E,by go_num,by rw[W.o],ZY⟩
   case measure=>simp[intOf];omega
  ·obtain rfl:a=g:=E;have A:=s.o a ZG;have c:=ag i R;have d:=ag i S;have e:=aB i R Z6;have f:=aB i S Z5;go_wp2_with fail;refine(Z2.o _ (o.below u)).mono ?_;rintro X ZI ⟨rfl,x⟩;refine l3 ?_;intro e f c d;have ZX:=au u x;clear x;go_wp2_with fail;refine sS ?_;rintro X ZH ⟨rfl,p⟩;refine h9 ?_;intro e f c d;have ZO:=au ZX p;clear p;go_wp2;refine aK (v:=aL #[ba #[M (bv (er b a) j).num,M (bv (er b a) j).den],aw (bv (er b a) j).ok]) (by simp[aJ,results29,go_sem,c,d,e,f]) I ⟨?_,?_⟩
   ·rfl
   ·exact aD
theorem ES (B:F) (g:aG) (X p:J) (i:ac) (a:af) (n:an a g X i) (V:aI B i=ae):
  db 36 #[am B g X p] a (fS B i):=by
 obtain⟨Z3,ZU,Z5,Z2,ZQ,ZP,_⟩:=bt V;have ZJ:1<=B /\ B<=4:=by rcases cG.1 Z3 with P | P | P | P<;>omega
 obtain⟨c,rfl⟩:∃c:J,B=(c:F):=⟨B.toNat,E⟩;obtain rfl:X=i.length:=n.len.symm;obtain⟨e,H⟩:∃e,i.length=e:=⟨_,I⟩;rw[H] at n Z5;have ZX:U (∀b,b<e->0<=O i b /\ O i b<=1000000):=by show ∀b,b<e->_;rw[<- H];exact Z2
 obtain⟨k,Z8⟩:∃k:J->F,U ((λ b=>a9 (bm (bU (2^b))) i e)=k):=⟨_,I⟩;have ZZ:U (∀b,a9 (bm (bU (2^b))) i e=k b):= λ b=>by rw[<- Z8.o]
 have Z0:U (fS (c:F) i=cQ k c):=by rw[U,<- Z8.o,<- H];rfl
 have A:U (∀d,an d g e i->aC 63 #[am (c:F) g e p] d (aw ae)):= λ d Q=>by rw[<- V];exact dA _ _ _ _ i d Q
 rw[Z0.o,H];clear ZU Z2 H V Z3 ZQ ZP;go_enter func36,ntmps36;go_wp2;obtain⟨j,m⟩:∃ZV,(a.alloc (al #[M (c:F),aa g e p] 29)).alloc (al #[] 3)=ZV:=⟨_,I⟩;have s: j.cell? (ad a.heap.size 0)=Z (M (c:F)):=by rw[<- m];simp
 have t: j.cell? (ad a.heap.size 1)=Z (aa g e p):=by rw[<- m];simp
 have ZT:av j (a.heap.size+1) (aq (a.heap.size+1) 0 0) (cQ k 0):=by
  exact x7
 have l:ap a j:=by rw[<- m];exact aD
 have ZI:a.heap.size+1<j.heap.size:=by rw[<- m];simp
 rw[m];clear m;go_loopw [3,4] (λ ZR W wr=>∃(b:J) (Y:ay),b<=c /\ W=M b /\ ZR=Y /\ av wr (a.heap.size+1) Y (cQ k b) /\ Below (a.heap.size+1) j wr /\ j.heap.size<=wr.heap.size) (λ _ W _=>c-(intOf W).toNat)
 case atStart=>exact⟨0,_,E,I,I,ZT,Below.refl _ _,bL _⟩
 case round =>
  obtain⟨b,Y,ZO,rfl,rfl,v,y,ZH⟩:=hrel;refine iy ?_;intro f w z;by_cases ZL:b<c
  ·have Z7:=ab (gn k b);have ZN:(0:F)<=(b:F):=E;have ZM:(b:F)<(c:F):=E;have ZS:=gO b E;have Z4:2^b<16:=by
    exact xm
   obtain⟨L,Z6⟩:∃L:J,U (2^b=L):=⟨_,I⟩;have ZY:U (a9 (bm (bU L)) i e=k b):=by rw[<- Z6.o];exact ZZ.o b
   rw[Z6.o] at ZS Z4;have ZW:U (∀d,an d g e i->aC 85 #[am (c:F) g e p,M (L:F)] d (M (k b))):= λ d Q=>by rw[<- ZY.o];exact ng _ L _ _ _ i d Q Z4 Z5 ZX.o
   go_wp2_with fail;refine oj ?_;intro x o q u r w z D;clear v y o;go_wp2_with fail;refine(ZW.o _ (n.below r)).mono ?_;rintro G Z1 ⟨rfl,K⟩;exact yb
  ·obtain rfl:b=c:=E;go_wp2_with fail;refine(A.o _ (n.below f)).mono ?_;rintro G x ⟨rfl,o⟩;have q:=v.below o;have r:=au f o;replace w:=ag o w;exact w5
theorem Fh (g q:F) (s t:aG) (m y b z:J) (n o:ac) (a:af) (Z8:an a s m n) (Z6:an a t b o):
  bp 196 #[am g s m y,am q t b z] a (iq g n q o):=by
 have X:Below a.heap.size a (((a.alloc (al #[M g,aa s m y] 29)).alloc (al #[M q,aa t b z] 29)).alloc (al #[M 0,aa aj 0 0] 29)):=aD;cases B:cJ g n q o
 ·have Zg:=ab (Cp B);rw[Zg.o];go_enter func196,ntmps196;go_wp2_with fail;refine jg ?_;refine iV ?_;intro u c d e f l;go_wp2;refine aK (v:=aL #[am 0 aj 0 0,aw ak]) (by simp[aJ,results196,go_sem,c,d]) I ⟨?_,?_⟩
  ·exact b1.no _ _
  ·exact bB
 ·obtain⟨Zl,Zk,Y3,Y⟩:=fN B;clear Y3;refine ib ?_;intro Q Z9 T;subst T;obtain⟨Y4,Zj,Y6,ZH,_,_,_⟩:=cv Zl;obtain⟨_,_,_,ZG,_,_,_⟩:=cv Zk;have YQ:=b8 Y4;have Y5:aH g=b:=by rw[<- Zj];exact Q.o
  have YR:2<=b:=E;refine yu ?_;intro K N P;have Z3:U (∀p,0<=O (bN (λ w x=>w&&&x) n o b b b) p /\ O (bN (λ w x=>w&&&x) n o b b b) p<=300000000000000):= λ p=>by
   exact n8
  refine og ?_;intro Z4;refine yo ?_;intro Z2;refine yV ?_;intro j ZF ZY Z3 Z4 Z2 ZV Z1;have Zr:U (∀r ZQ Zz,an r (Z (ad ZQ 0)) b (im j b)->bp 171 #[M g,aq ZQ b Zz] r (bh g (im j b))):= λ r ZQ Zz ZD=>hk g _ _ _ _ r ZD K ZV.o
  have Y9:=Z3.o 0;have Y8:=Z3.o (b-1);obtain⟨ZX,ZC⟩:∃ZA,O j 0=ZA:=⟨_,I⟩;obtain⟨ZW,ZB⟩:∃ZA,O j (b-1)=ZA:=⟨_,I⟩;rw[ZC] at Y9 Z1;rw[ZB] at Y8 Z1;have Zf:=ab ZC;have Zq:=ab ZB;obtain⟨ZI,Zi⟩:∃ZI,bh g (im j b)=ZI:=⟨_,I⟩;rw[Zi] at Zr ⊢;obtain⟨ZK,Zm⟩:∃Y2,b-1=Y2:=⟨_,I⟩;rw[Zm] at Z1 Zq;have YT:((b:F)-1)=(ZK:F):=E;have ZE:ZK<b:=E;have C:(0:F)<=(ZK:F):=E;have YZ:(ZK:F)<(b:F):=E;have ZS:0<b:=E;have YP:IntKind.i64.wrap (ZW+ZX)=ZW+ZX:=by rw[bV];omega
  clear Y ZH ZG Y6 Zl Zk ZY ZC ZB Zi Zj Y5 Zm;go_enter func196,ntmps196;go_wp2_with fail;refine jg ?_;refine iW ?_;intro u i c d e f D G C H l;refine k8 ?_;intro Z7 Z5;have YN:a.heap.size+1+1<u.heap.size:=b6 c;clear i X;go_wp2_with fail;refine(Z2.o _ Z7 Z5).mono ?_;rintro V YM ⟨⟨Y0,rfl,S⟩,v⟩;obtain⟨ZQ,YX,Zp,YV,YU,_⟩:=S.form (by rw[Z4.o];omega);rw[Z4.o] at Zp;subst Zp;replace D:=ag v D;replace G:=ag v G;replace C:=ag v C;replace H:=ag v H;refine hF ?_;intro e f c d A;clear v Z7 Z5;go_wp2_with fail;obtain⟨ZL,Zn,_⟩:=S.cellAt ZE;obtain⟨ZM,Zo,_⟩:=S.cellAt ZS;rw[Zq.o] at ZL;rw[Zf.o] at ZM;refine ei 10 ah ah (λ _ _ _ _ _ ZD=>ZD) ?_;refine dY ?_;repeat (first | go_big_quiet_step ((fail)) | quiet_step ((fail)))
  refine et ?_;intro L k;have ZR:=S.below k;replace Zn:=aB k ZL Zn;replace ZL:=ag k ZL;replace Zo:=aB k ZM Zo;replace ZM:=ag k ZM;replace D:=ag k D;replace G:=ag k G;replace C:=ag k C;replace H:=ag k H;refine oq ?_;intro e f c d;have Zx:=au A k;have YO:=k.size;refine ze ?_;intro Zt Zs ZP ZU Zw Zv ZT W e f c d Zu ZO ZN;clear S ZR k;go_wp2_with fail;rw[ZU.o,ZT.o];refine(Zr.o _ _ _ ZN).mono ?_;rintro V YL ⟨⟨Y0,rfl,Zh⟩,R⟩;obtain⟨Ze,Y1,Y7,rfl,YS⟩:=Zh.ints;refine oe ?_;intro e f c d ZZ;clear R;go_wp2;refine aK (v:=aL #[am ZI.size Ze Y1 Y7,aw ZI.ok]) (by simp[aJ,results196,go_sem,c,d,e,f]) I ⟨?_,?_⟩
  ·exact⟨_,I,(((Zh.mono (base':=a.heap.size+1+1+1) E).setBelow ar _).setBelow ar _).mono E⟩
  ·exact aD
theorem AV (l:F) (N:aG) (g S:J) (p:ac) (m:af) (Zv:an m N g p) (Zy:aI l p=ae):
  aY prog 204 #[am l N g S] m λ u b=>(∃T,u=aV (ba #[M l,T]) /\ av b m.heap.size T (dv p)) /\ ap m b:=by
 obtain⟨Y2,Y5,YZ,Y7,_,_,_⟩:=cv Zy;have Zx:=Zv.len;have YR:=b8 Y2;have YS:g<=16:=E;have YT:0<g:=E;have Ze:U (dv p=hO p g g):=by rw[U,<- Zx];rfl
 rw[Ze.o];obtain⟨Zh,Zz,Zu,Zt,Zs⟩:=info_parts ig;have Zj:=ab Zz;have Z0:U (_ /\ _ /\ _):=⟨Zu,Zt,Zs⟩;obtain⟨e,ZS⟩:∃e,m.heap.size+1+1=e:=⟨_,I⟩;obtain⟨V,ZW⟩:∃V,U (((m.alloc (al #[M l,aa N g S] 29)).alloc (al #[M 0,aa aj 0 0] 29)).alloc (al #[M l,aa aj 0 0] 29)=V):=⟨_,I⟩;have Y9:ap m V:=by rw[<- ZW.o];exact aD
 have ZV:=nN (W:=m) 29 (M l) (aa N g S) I;have z:=nN (W:=m.alloc (al #[M l,aa N g S] 29)) (A:=m.heap.size+1) 29 (M 0) (aa aj 0 0) ar;have Zb:=nN (W:=(m.alloc (al #[M l,aa N g S] 29)).alloc (al #[M 0,aa aj 0 0] 29)) (A:=m.heap.size+1+1) 29 (M l) (aa aj 0 0) ar;have Y1:=ag (az _ (al #[M l,aa aj 0 0] 29)) (ag (az _ (al #[M 0,aa aj 0 0] 29)) ZV.1);have Zq:=ag (az _ (al #[M l,aa aj 0 0] 29)) (ag (az _ (al #[M 0,aa aj 0 0] 29)) ZV.2.1);have D:=aB (az _ (al #[M l,aa aj 0 0] 29)) z.1 z.2.2.1;have G:=aB (az _ (al #[M l,aa aj 0 0] 29)) z.2.1 z.2.2.2.1;have H:=ag (az _ (al #[M l,aa aj 0 0] 29)) z.1;have K:=ag (az _ (al #[M l,aa aj 0 0] 29)) z.2.1;obtain⟨ZP,ZO,ZC,ZT,ZB⟩:=Zb;rw[ZW.o] at Y1 Zq D G H K ZP ZO ZC ZT ZB;rw[ZS] at ZP ZO ZC ZT ZB;obtain⟨t,ZR⟩:∃Zd,m.heap.size+1=Zd:=⟨_,I⟩;rw[ZR] at D G H K;have YV:m.heap.size<t:=E;have YU:t<e:=E;have Zg:=ab ZS;have Zf:=ab ZR;clear ZS ZR ZV z Y5 Zx Y7 Zz Zu Zt Zs Zy;go_enter func204,ntmps204;go_wp2;rw[ZW.o];rw[Zg.o,Zf.o];go_loopw [4] (λ v wr=>∃(Z9:J) (T:ay),Z9<=g /\ v=M ((g:F)-1-(Z9:F)) /\ wr.cell? (ad e 0)=Z (M l) /\ wr.cell? (ad e 1)=Z T /\ wr.frozen? (ad e 1)=ak /\ av wr (e+1) T (hO p g Z9) /\ Below e V wr) (λ v _=>(intOf v+1).toNat)
 case atStart=>exact⟨0,_,E,by go_num,ZP,ZO,ZT,av.nil _ _,Below.refl _ _⟩
 case round =>
  obtain⟨Z9,T,YY,rfl,ZZ,L,Z3,w,x⟩:=hrel;obtain⟨q,i,r,rfl,Y6⟩:=w.ints;have Y4:i=Z9:=by rw[<- Y6.len];exact kF _ _ _
  subst Y4;have Za:ap m wr:=Y9.trans (x.mono E);have Y8:=fX wr _ L;simp only at Y8;have Z2:=(x.cell (p:=(ad m.heap.size 1)) (by show m.heap.size<e;omega)).trans Zq;by_cases YW:i<g
  ·have YX:(0:F)<=(i:F):=E;obtain⟨n,Zw⟩:∃n,g-1-i=n:=⟨_,I⟩;have Y3:n<g:=E;have ZQ:((g:F)-1-(i:F))=(n:F):=E;rw[ZQ];have R:=ab (qL p g i);rw[Zw] at R;refine oo ?_;intro X Y;obtain⟨Z8,ZM,rfl,YQ,YP,ZU⟩:=Zv.at Za Y3;obtain⟨Q,ZA⟩:∃Y0,O p n=Y0:=⟨_,I⟩;rw[ZA] at ZU R;have Z1:U (∀s,(aa q i r).ownBlock=Z s->e≠s):= λ s u=>by have:=(w.block s u).1;omega
   have y:wr.ownsRow (e+1) 3 1 (aa q i r) i ((hO p g i).map (ed .i64)):=by
    have a:=w;unfold av at a;rw[kF] at a;exact a
   have ZJ:=ab y;have YO:Z8<e:=E;clear Zw ZA y;go_wp2;refine jT (ι:=ay×ay) (λ Zc v=>(aT (aT (aT (aT (aT (aT (aT (aT (aT (aT Zc (Z 16) (.pointer (Z (ad e 1)))) (Z 17) (aa q i r)) (Z 18) (.pointer (Z (ad m.heap.size 1)))) (Z 19) (aa (Z ⟨Z8,ZM,aj⟩) g S)) (Z 20) (M (n:F))) (Z 21) (.pointer (Z ⟨Z8,ZM+n,aj⟩))) (Z 22) (M Q)) (Z 23) v.1) (Z 24) v.2) (Z 25) (.pointer (Z (ad e 1))))) (λ v b=>b.cell? (ad e 0)=Z (M l) /\ b.cell? (ad e 1)=Z v.2 /\ b.frozen? (ad e 1)=ak /\ av b (e+1) v.2 (hO p g (i+1)) /\ Below e V b) ?_ ?_
   ·refine gJ (λ b=>Below e wr b) (λ b=>b.cell? (ad e 1)=Z (aa q i r) /\ b.frozen? (ad e 1)=ak) 8 ah ?_;refine lY ?_;refine yY ?_;intro d c;refine p4 ?_;refine yW ?_;refine ta ?_;refine bX (i:=6) (v:=?_) I ah ah ah (λ _ _ _ a=>a) aX (Or.inl ⟨a6,λ b f=>?_⟩) d (λ _=>c) ?_;rotate_left
    ·have ZN:=(f.cell (p:=⟨Z8,ZM+n,aj⟩) (show Z8<e from E)).trans ZU;go_simp;first | done | rfl
    simp only[aT];refine e7 7 I ah a6 (λ k j=>?_);refine y5 ?_;intro A o;refine j _ _ A (λ _=>o) ?_;clear j k d c;refine oi ?_;intro k j;refine yp ?_;intro s Z7 C ZX P ZI ZH y d c ZY;refine j _ _ d (λ _=>c) ?_;clear j k A o;refine ol ?_;have Zr:=c.1;have ZD:=c.2;refine m0 ?_;intro k j;exact wa
   ·rintro⟨YN,YM⟩ YL ⟨ZL,ZK,ZE,Zo,Zp⟩;have Zn:=ab ZL;have Zm:=ab ZK;have Zl:=ab ZE;clear ZZ L Z3 w Z2 ZU ZL ZK ZE;go_wp2;go_roundw
    case rel=>exact⟨i+1,_,E,by go_num,Zn.o,Zm.o,Zl.o,Zo,Zp⟩
    case measure=>first | (simp[intOf];done) | (simp[intOf];omega)
  ·obtain rfl:i=g:=E;have ZQ:((i:F)-1-(i:F))= -1:=E;rw[ZQ];refine y4 ?_;intro Z6 Z5 ZG ZF Z4;clear H K D G;go_wp2;refine aK (v:=am l q i r) (by simp[aJ,results204,go_sem,Z6,Z5]) I ⟨⟨_,I,(w.put2 (b:=t) Z4).mono E⟩,?_⟩;exact aD
theorem Fi (c:F) (G:aG) (j m:J) (f:ac) (a:af) (s:an a G j f) (q:aI c f=ae):
  aY prog 197 #[am c G j m] a λ i k=>b1 ⟨c,dv f,ae⟩ a.heap.size i k /\ ap a k:=by
 have l:=ab q;go_enter func197,ntmps197;go_wp2_with fail;refine(dA _ _ _ _ f _ (s.below aD)).mono ?_;rw[l.o];rintro i t ⟨rfl,e⟩;obtain⟨d,g,n,o⟩:=cj (a.heap.size+1) e ar;have A:=aS e a.heap.size 0 (M c);have B:=aS e a.heap.size 1 (aa G j m);have p:ap a t:=bJ e;have z:a.heap.size+1<t.heap.size:=b6 d;clear e q;go_wp2_with fail;refine(AV c _ _ _ f _ (s.below p) l.o).mono ?_;rintro i D ⟨⟨C,rfl,r⟩,b⟩;obtain⟨u,w,v,rfl,y⟩:=r.ints;replace n:=aB b d n;replace o:=aB b g o;replace d:=ag b d;replace g:=ag b g;have x:=au p b;clear b;go_wp2;refine aK (v:=aL #[am c u w v,aw ae]) (by simp[aJ,results197,go_sem,d,g]) I ⟨⟨_,I,((r.setBelow (a:=(ad (a.heap.size+1) 0)) (by simp;omega) _).setBelow (a:=(ad (a.heap.size+1) 1)) (by simp;omega) _).mono E⟩,?_⟩;exact aD
theorem F1 (a n l:F) (k:aG) (e v:J) (i:ac) (c:af) (r:an c k e i) (x:aI a i=ae):
  bp 159 #[am a k e v,ba #[M n,M l]] c (cB a i a (cX a (aH a-1)) n l):=by
 obtain⟨y,Z8,V,Y,_,_,_⟩:=bt x;have Z7:=r.len;have Z6:=b8 y;have q:aH a=e:=E;have ZS:2<=e:=E;have S:=ab x;have A:=ab y;obtain⟨t,K⟩:∃t,e-1=t:=⟨_,I⟩;obtain⟨o,s⟩:∃o,(cX a (aH a-1))=o:=⟨_,I⟩;have B:U (o.length=e):=by rw[U,<- s,<- q];exact mz _ _
 have T:U (∀b,an b k e i->aY prog 13 #[M a,M (t:F)] b λ f j=>(∃z,f=aV (ba #[M a,z]) /\ av j b.heap.size z o) /\ ap b j):= λ b ZV=>by rw[<- s,<- K,<- q];exact qp a (aH a-1) b A.o E
 have R:U (∀b,aY prog 224 #[M a] b λ f j=>f=aV (M (t:F)) /\ b=j):= λ b=>(me a b A.o).mono λ f j ⟨Z9,Z4⟩=>⟨by rw[Z9,q];congr 2;omega,Z4⟩
 rw[s];skip;clear Z8 Z7 Y x y V s q Z6 K;go_enter func159,ntmps159;go_wp2_with fail;refine(cn _ _ _ _ i _ (r.below aD)).mono ?_;rw[S.o];rintro f u ⟨rfl,ZK⟩;obtain⟨m,p,C,D⟩:=cj (c.heap.size+1+1) ZK ar;have N:=aS ZK c.heap.size 0 (M a);have O:=aS ZK c.heap.size 1 (aa k e v);have P:=aS ZK (c.heap.size+1) 0 (M n);have Q:=aS ZK (c.heap.size+1) 1 (M l);have w:ap c u:=bJ ZK;have ZQ:c.heap.size+1+1<u.heap.size:=b6 m;clear ZK;have ZR:¬c.heap.size+1+1=c.heap.size:=E;go_wp2_with fail;go_region_held3 (λ b=>b.cell? (ad c.heap.size 0)=Z (M a) /\ b.cell? (ad c.heap.size 1)=Z (aa k e v) /\ b.cell? (ad (c.heap.size+1) 0)=Z (M n) /\ b.cell? (ad (c.heap.size+1) 1)=Z (M l)) (first | (refine⟨by assumption,by assumption,by assumption,by assumption⟩;done) | (refine⟨by simp[*],by simp[*],by simp[*],by simp[*]⟩;done) | go_keep) (first | (go_at_call 224;refine(R.o _).mono ?_;rintro f b ⟨rfl,rfl⟩) | (go_at_call 13;refine(T.o _ ((r.below w).below (bI u))).mono ?_;rintro f ZM ⟨⟨ZN,rfl,Z5⟩,W⟩;obtain⟨ZW,ZX,G,_,_,H⟩:=Z5.form (by rw[B.o];omega);rw[B.o] at G H;subst G;have g:=au (bI u) W;have Z3:=ag g N;have Z2:=ag g O;have Z1:=ag g P;have Z0:=ag g Q) | (go_at_call 161;refine(tw a a n l _ _ _ _ _ _ i o _ ((r.below w).below g) H).mono ?_;rintro f ZL ⟨⟨z,rfl,L⟩,X⟩;obtain⟨ZZ,ZO,ZY,rfl,ZT⟩:=L.ints;have d:=au g X;have Z3:=ag d N;have Z2:=ag d O;have Z1:=ag d P;have Z0:=ag d Q;have C:=aB d m C;have D:=aB d p D;have m:=ag d m;have p:=ag d p));all_goals
  have ZU:=au w d;have ZP:=g.size;go_wp2;refine aK (by simp[aJ,results159,go_sem,m,p]) I ⟨⟨_,I,((L.setBelow (by simp;omega) _).setBelow (by simp;omega) _).mono E⟩,?_⟩;exact aD
theorem F2 (c l j:F) (i:aG) (e n:J) (f:ac) (a:af) (q:an a i e f) (u:aI c f=ae):
  bp 160 #[am c i e n,ba #[M l,M j]] a (cB c f c (dv f) l j):=by
 obtain⟨H,X,S,W,_,_,_⟩:=bt u;have D:=q.len;have Y:=b8 H;have ZX:2<=e:=E;have x:=ab u;obtain⟨N,Z9⟩:∃N,e-1=N:=⟨_,I⟩;obtain⟨m,r⟩:∃m,(dv f)=m:=⟨_,I⟩;have y:U (m.length=e):=by rw[U,<- r];rw[oF];exact D
 have Q:U (∀b,an b i e f->aY prog 225 #[am c i e n] b λ o w=>(∃v,o=aV (ba #[M c,v]) /\ av w b.heap.size v m) /\ ap b w):= λ b R=>by rw[<- r];exact A5 c _ _ _ f b R x.o
 skip;rw[r];skip;clear X D W u H S r Y Z9;go_enter func160,ntmps160;go_wp2_with fail;refine(cn _ _ _ _ f _ (q.below aD)).mono ?_;rw[x.o];rintro o s ⟨rfl,ZP⟩;obtain⟨k,p,z,A⟩:=cj (a.heap.size+1+1) ZP ar;have K:=aS ZP a.heap.size 0 (M c);have L:=aS ZP a.heap.size 1 (aa i e n);have O:=aS ZP (a.heap.size+1) 0 (M l);have P:=aS ZP (a.heap.size+1) 1 (M j);have t:ap a s:=bJ ZP;have ZV:a.heap.size+1+1<s.heap.size:=b6 k;clear ZP;have ZW:¬a.heap.size+1+1=a.heap.size:=E;go_wp2_with fail;go_region_held3 (λ b=>b.cell? (ad a.heap.size 0)=Z (M c) /\ b.cell? (ad a.heap.size 1)=Z (aa i e n) /\ b.cell? (ad (a.heap.size+1) 0)=Z (M l) /\ b.cell? (ad (a.heap.size+1) 1)=Z (M j)) (first | (refine⟨by assumption,by assumption,by assumption,by assumption⟩;done) | (refine⟨by simp[*],by simp[*],by simp[*],by simp[*]⟩;done) | go_keep) (first | (go_at_call 225;refine(Q.o _ ((q.below t).below (bI s))).mono ?_;rintro o ZR ⟨⟨ZS,rfl,Z8⟩,T⟩;obtain⟨Z0,Z1,B,_,_,C⟩:=Z8.form (by rw[y.o];omega);rw[y.o] at B C;subst B;have g:=au (bI s) T;have Z7:=ag g K;have Z6:=ag g L;have Z5:=ag g O;have Z4:=ag g P) | (go_at_call 161;refine(tw c c l j _ _ _ _ _ _ f m _ ((q.below t).below g) C).mono ?_;rintro o ZQ ⟨⟨v,rfl,G⟩,V⟩;obtain⟨Z3,ZT,Z2,rfl,ZY⟩:=G.ints;have d:=au g V;have Z7:=ag d K;have Z6:=ag d L;have Z5:=ag d O;have Z4:=ag d P;have z:=aB d k z;have A:=aB d p A;have k:=ag d k;have p:=ag d p));all_goals
  have ZZ:=au t d;have ZU:=g.size;go_wp2;refine aK (by simp[aJ,results160,go_sem,k,p]) I ⟨⟨_,I,((G.setBelow (by simp;omega) _).setBelow (by simp;omega) _).mono E⟩,?_⟩;exact aD
theorem Ed (c l j:F) (i:aG) (e n:J) (f:ac) (a:af) (q:an a i e f) (u:aI c f=ae):
  bp 100 #[am c i e n,ba #[M l,M j]] a (cB c f c (dv f) l j):=by
 obtain⟨H,X,S,W,_,_,_⟩:=bt u;have D:=q.len;have Y:=b8 H;have ZX:2<=e:=E;have x:=ab u;obtain⟨N,Z9⟩:∃N,e-1=N:=⟨_,I⟩;obtain⟨m,r⟩:∃m,(dv f)=m:=⟨_,I⟩;have y:U (m.length=e):=by rw[U,<- r];rw[oF];exact D
 have Q:U (∀b,an b i e f->aY prog 204 #[am c i e n] b λ o w=>(∃v,o=aV (ba #[M c,v]) /\ av w b.heap.size v m) /\ ap b w):= λ b R=>by rw[<- r];exact AV c _ _ _ f b R x.o
 skip;rw[r];skip;clear X D W u H S r Y Z9;go_enter func100,ntmps100;go_wp2_with fail;refine(dA _ _ _ _ f _ (q.below aD)).mono ?_;rw[x.o];rintro o s ⟨rfl,ZP⟩;obtain⟨k,p,z,A⟩:=cj (a.heap.size+1+1) ZP ar;have K:=aS ZP a.heap.size 0 (M c);have L:=aS ZP a.heap.size 1 (aa i e n);have O:=aS ZP (a.heap.size+1) 0 (M l);have P:=aS ZP (a.heap.size+1) 1 (M j);have t:ap a s:=bJ ZP;have ZV:a.heap.size+1+1<s.heap.size:=b6 k;clear ZP;have ZW:¬a.heap.size+1+1=a.heap.size:=E;go_wp2_with fail;go_region_held3 (λ b=>b.cell? (ad a.heap.size 0)=Z (M c) /\ b.cell? (ad a.heap.size 1)=Z (aa i e n) /\ b.cell? (ad (a.heap.size+1) 0)=Z (M l) /\ b.cell? (ad (a.heap.size+1) 1)=Z (M j)) (first | (refine⟨by assumption,by assumption,by assumption,by assumption⟩;done) | (refine⟨by simp[*],by simp[*],by simp[*],by simp[*]⟩;done) | go_keep) (first | (go_at_call 204;refine(Q.o _ ((q.below t).below (bI s))).mono ?_;rintro o ZR ⟨⟨ZS,rfl,Z8⟩,T⟩;obtain⟨Z0,Z1,B,_,_,C⟩:=Z8.form (by rw[y.o];omega);rw[y.o] at B C;subst B;have g:=au (bI s) T;have Z7:=ag g K;have Z6:=ag g L;have Z5:=ag g O;have Z4:=ag g P) | (go_at_call 101;refine(tu c c l j _ _ _ _ _ _ f m _ ((q.below t).below g) C).mono ?_;rintro o ZQ ⟨⟨v,rfl,G⟩,V⟩;obtain⟨Z3,ZT,Z2,rfl,ZY⟩:=G.ints;have d:=au g V;have Z7:=ag d K;have Z6:=ag d L;have Z5:=ag d O;have Z4:=ag d P;have z:=aB d k z;have A:=aB d p A;have k:=ag d k;have p:=ag d p));all_goals
  have ZZ:=au t d;have ZU:=g.size;go_wp2;refine aK (by simp[aJ,results100,go_sem,k,p]) I ⟨⟨_,I,((G.setBelow (by simp;omega) _).setBelow (by simp;omega) _).mono E⟩,?_⟩;exact aD
theorem Ee (d j i:F) (o:aG) (g u:J) (p:ac) (c:af) (C:an c o g p) (N:aI d p=ae):
  bp 99 #[am d o g u,ba #[M j,M i]] c (cB d p d (cX d (aH d-1)) j i):=by
 obtain⟨P,ZW,ZZ,ZY,_,_,_⟩:=bt N;have ZV:=C.len;have ZU:=b8 P;have O:aH d=g:=E;have ZG:2<=g:=E;have Z6:=ab N;have Z5:=ab P;obtain⟨s,Y⟩:∃s,g-1=s:=⟨_,I⟩;obtain⟨t,D⟩:∃t,(cX d (aH d-1))=t:=⟨_,I⟩;have ZL:U (t.length=g):=by rw[U,<- D,<- O];exact mz _ _
 have Z4:U (∀a,an a o g p->aY prog 21 #[M d,M (s:F)] a λ A R=>(∃Q,A=aV (ba #[M d,Q]) /\ av R a.heap.size Q t) /\ ap a R):= λ a e=>by rw[<- D,<- Y,<- O];exact qW d (aH d-1) a Z5.o E
 skip;rw[D];have ZF:((g:F)-1)=(s:F):=E;have ZD:(s:F)<=16:=E;clear ZW ZV ZY N P ZZ D O ZU Y;go_enter func99,ntmps99;go_wp2_with fail;refine(dA _ _ _ _ p _ (C.below aD)).mono ?_;rw[Z6.o];rintro A z ⟨rfl,r⟩;obtain⟨v,B,Z1,Z0⟩:=cj (c.heap.size+1+1) r ar;have ZR:=aS r c.heap.size 0 (M d);have ZQ:=aS r c.heap.size 1 (aa o g u);have ZP:=aS r (c.heap.size+1) 0 (M j);have ZO:=aS r (c.heap.size+1) 1 (M i);have G:ap c z:=bJ r;have ZC:c.heap.size+1+1<z.heap.size:=b6 v;clear r;have ZE:¬c.heap.size+1+1=c.heap.size:=E;go_wp2_with fail;refine gJ (λ a:af=>a.cell? (ad c.heap.size 0)=Z (M d) /\ a.cell? (ad c.heap.size 1)=Z (aa o g u) /\ a.cell? (ad (c.heap.size+1) 0)=Z (M j) /\ a.cell? (ad (c.heap.size+1) 1)=Z (M i)) (λ _=>True) 12 ah ?_;change de _ _ _ _ _ _ _ _ _ _ (dH z);have b:(λ a:af=>a.cell? (ad c.heap.size 0)=Z (M d) /\ a.cell? (ad c.heap.size 1)=Z (aa o g u) /\ a.cell? (ad (c.heap.size+1) 0)=Z (M j) /\ a.cell? (ad (c.heap.size+1) 1)=Z (M i)) (dH z):=⟨ZR,ZQ,ZP,ZO⟩;have X:=bI z;refine bX (i:=0) (v:=?_) I ah ah ah (λ _ _ _ e=>e) aX (Or.inl ⟨a6,λ a f=>?_⟩) b (λ _=>trivial) ?_;rotate_left
 ·obtain⟨k,l,m,n⟩:=f;go_simp;first | done | rfl
 simp only[aT];refine bX (i:=1) (v:=?_) I ah ah ah (λ _ _ _ e=>e) aX (Or.inl ⟨a6,λ a f=>?_⟩) b (λ _=>trivial) ?_;rotate_left
 ·obtain⟨k,l,m,n⟩:=f;go_simp;first | done | rfl
 simp only[aT];refine bX (i:=2) (v:=?_) I ah ah ah (λ _ _ _ e=>e) aX (Or.inl ⟨a6,λ a f=>?_⟩) b (λ _=>trivial) ?_;rotate_left
 ·obtain⟨k,l,m,n⟩:=f;go_simp;first | done | rfl
 simp only[aT];refine bX (i:=3) (v:=?_) I ah ah ah (λ _ _ _ e=>e) aX (Or.inl ⟨a6,λ a f=>?_⟩) b (λ _=>trivial) ?_;rotate_left
 ·obtain⟨k,l,m,n⟩:=f;go_simp;first | done | rfl
 simp only[aT];refine bX (i:=4) (v:=?_) I ah ah ah (λ _ _ _ e=>e) aX (Or.inl ⟨a6,λ a f=>?_⟩) b (λ _=>trivial) ?_;rotate_left
 ·obtain⟨k,l,m,n⟩:=f;go_simp;first | done | rfl
 simp only[aT];refine bX (i:=5) (v:=?_) I ah ah ah (λ _ _ _ e=>e) aX (Or.inl ⟨a6,λ a f=>?_⟩) b (λ _=>trivial) ?_;rotate_left
 ·obtain⟨k,l,m,n⟩:=f;go_simp;first | done | rfl
 simp only[aT];refine bX (i:=6) (v:=?_) I ah ah ah (λ _ _ _ e=>e) aX (Or.inl ⟨a6,λ a f=>?_⟩) b (λ _=>trivial) ?_;rotate_left
 ·obtain⟨k,l,m,n⟩:=f;go_simp;first | done | rfl
 simp only[aT];refine bX (i:=8) (v:=?_) I ah ah ah (λ _ _ _ e=>e) aX (Or.inl ⟨a6,λ a f=>?_⟩) b (λ _=>trivial) ?_;rotate_left
 ·obtain⟨k,l,m,n⟩:=f;go_simp;first | done | rfl
 simp only[aT];rw[show IntKind.i64.wrap (s:F)=(s:F) from bV _ E];refine e7 7 I ah a6 (λ q Zy=>?_);go_simp;refine(Z4.o _ ((C.below G).below X)).mono ?_;rintro A ZN ⟨⟨Zz,rfl,ZT⟩,x⟩;have H:=au X x;obtain⟨ZJ,ZA,ZK,rfl,ZX⟩:=ZT.ints;go_simp;have K:(λ a:af=>a.cell? (ad c.heap.size 0)=Z (M d) /\ a.cell? (ad c.heap.size 1)=Z (aa o g u) /\ a.cell? (ad (c.heap.size+1) 0)=Z (M j) /\ a.cell? (ad (c.heap.size+1) 1)=Z (M i)) ZN:=⟨ag x b.1,ag x b.2.1,ag x b.2.2.1,ag x b.2.2.2⟩;refine Zy _ _ K (λ _=>trivial) ?_;clear Zy q b;have b:=K;clear K;refine e7 9 I ah a6 (λ q Zy=>?_);go_simp;refine(tu d d j i _ _ _ _ _ _ p t _ ((C.below G).below H) ZX).mono ?_;rintro A ZM ⟨⟨Q,rfl,Z9⟩,y⟩;obtain⟨Z3,ZS,Z2,rfl,ZH⟩:=Z9.ints;have w:=au H y;go_simp;have L:(λ a:af=>a.cell? (ad c.heap.size 0)=Z (M d) /\ a.cell? (ad c.heap.size 1)=Z (aa o g u) /\ a.cell? (ad (c.heap.size+1) 0)=Z (M j) /\ a.cell? (ad (c.heap.size+1) 1)=Z (M i)) ZM:=⟨ag y b.1,ag y b.2.1,ag y b.2.2.1,ag y b.2.2.2⟩;refine Zy _ _ L (λ _=>trivial) ?_;clear Zy q b;have b:=L;clear L;refine bX (i:=10) (v:=?_) I ah ah ah (λ _ _ _ e=>e) aX (Or.inl ⟨a6,λ a f=>?_⟩) b (λ _=>trivial) ?_;rotate_left
 ·obtain⟨k,l,m,n⟩:=f;go_simp;first | done | rfl
 simp only[aT];refine bX (i:=11) (v:=?_) I ah ah ah (λ _ _ _ e=>e) aX (Or.inl ⟨a6,λ a f=>?_⟩) b (λ _=>trivial) ?_;rotate_left
 ·obtain⟨k,l,m,n⟩:=f;go_simp;first | done | rfl
 simp only[aT];have ZI:=au G w;have ZB:=H.size;have Z8:=aB w v Z1;have Z7:=aB w B Z0;replace v:=ag w v;replace B:=ag w B;have S:=b.1;have T:=b.2.1;have V:=b.2.2.1;have W:=b.2.2.2;clear b;refine e7 12 I ah a6 (λ q Zy=>?_);go_simp;refine Zy _ _ ?_ (λ _=>trivial) ?_
 ·exact⟨(dI _ _ _ _ bO).trans ((dI _ _ _ _ bO).trans S),(dI _ _ _ _ bO).trans ((dI _ _ _ _ bO).trans T),(dI _ _ _ _ bO).trans ((dI _ _ _ _ bO).trans V),(dI _ _ _ _ bO).trans ((dI _ _ _ _ bO).trans W)⟩
 clear Zy q;refine e7 13 I ah a6 (λ q Zy=>?_);go_simp;refine Zy _ _ ⟨(dI _ _ _ _ bO).trans ((dI _ _ _ _ bO).trans S),(dI _ _ _ _ bO).trans ((dI _ _ _ _ bO).trans T),(dI _ _ _ _ bO).trans ((dI _ _ _ _ bO).trans V),(dI _ _ _ _ bO).trans ((dI _ _ _ _ bO).trans W)⟩ (λ _=>trivial) ?_;clear Zy q;refine tf ah ?_ _;go_wp2;refine aK (v:=aL #[ba #[M (cB d p d t j i).size,aa Z3 ZS Z2],aw (cB d p d t j i).ok]) (by simp[aJ,results99,go_sem,v,B,Z8,Z7]) I ⟨?_,?_⟩
 ·exact⟨_,I,((Z9.setBelow (by simp;omega) _).setBelow (by simp;omega) _).mono E⟩
 ·exact aD
end Go.Proofs.YtkjnhlpccgjfhaaGreatDoor
