/- A part of the proof: lemmas (my texts, shortened by a program of mine). -/
import Derived.Test.YtkjnhlpccgjfhaaGreatDoorC05
set_option linter.all false
set_option maxRecDepth 100000
set_option maxHeartbeats 4000000
namespace Go.Proofs.YtkjnhlpccgjfhaaGreatDoor
open Go.RowKit
open Go.Proofs.Tryz
open Bool renaming and_eq_true->b9,false->ak,true->ae
open Classical renaming byContradiction->jJ
open Go renaming Calls->aY,Value->ay,World->af,callFunc->b0,wpQuiet_nil->dn
open Go.Ending renaming returned->aV
open Go.IntWalk renaming i64_in->bV
open Go.Obj renaming cells->al
open Go.Result renaming andThen_ok->ex
open Go.Sem renaming run->c9,run_bind->eC,run_pure->ey
open Go.Value renaming bool->aw,slice->aa
open Go.World renaming ownsRow_lit->fF
open Int renaming zero_mul->j9
open List renaming length_append->dm
open Nat renaming le_of_lt->h3,le_refl->bL,lt_of_lt_of_le->cm
open Option renaming isNone_iff_eq_none->eB,none->aj,some->Z
open Or renaming inl->bj,inr->aP
open _root_ renaming Array->bg,Bool->a8,Int->F,List->aU,Nat->J,absurd->bC,beq_iff_eq->cR,if_neg->aF,if_pos->a7,rfl->I
variable {p q:Prop}
def dk (e:F->F->F) (c:ac) (d f:J):F×a8:=bx (λ b a=>if bZ d b then (if a.2 then e a.1 (O c b) else O c b,ae) else a) (0,ak) f
def e9 (c:F->F->F) (f b:ac) (d:J):F:=bx (λ a e=>e+O f a*(dk c b a b.length).1) 0 d
def j3 (b:F->F->F) (a c:ac):F:=e9 b a c a.length
def cr (a:F):Prop:= -2000<=a /\ a<=2000
theorem BK (c:F->F->F) (k:∀h i,cr h->cr i->cr (c h i)) (b:ac) (g:J) (j:∀a,a<g->cr (O b a)) (d a:J) (m:a<=g):cr (dk c b d a).1:=by
 induction a with
 | zero=>exact(⟨aX,aX⟩:cr 0)
 | succ a l =>
  have e:=l E
  have f:=j a E
  show cr (if bZ d a then (if (dk c b d a).2 then c (dk c b d a).1 (O b a) else O b a,ae) else dk c b d a).1
  split
  ·show cr (if (dk c b d a).2 then _ else _);split
   ·exact k _ _ e f
   ·exact f
  ·exact e
theorem lC (b a:F) (c:0<=b) (h:b<=1000000) (d: -2000<=a) (e:a<=2000): -2000000000<=b*a /\ b*a<=2000000000:=by
 have f:=Int.mul_le_mul_of_nonneg_left e c;have g:=Int.mul_le_mul_of_nonneg_left d c;omega
theorem Kq (c:F->F->F) (k:∀h i,cr h->cr i->cr (c h i)) (d b:ac) (g:J) (l:∀a,a<g->0<=O d a /\ O d a<=1000000) (j:∀a,a<b.length->cr (O b a)) (a:J) (p:a<=g):
  -2000000000*(a:F)<=e9 c d b a /\ e9 c d b a<=2000000000*(a:F):=by
 induction a with
 | zero=>exact⟨by simp[e9,bx],by simp[e9,bx]⟩
 | succ a m =>
  have n:=m E
  have e:=l a E
  have f:=BK c k b b.length j a b.length aZ
  have o:=lC _ _ e.1 e.2 f.1 f.2
  show _<=e9 c d b a+O d a*(dk c b a b.length).1 /\ e9 c d b a+O d a*(dk c b a b.length).1<=_
  push_cast
  omega
def dw (b c:ac) (d:J):ac:=bx (λ a e=>e++[O b a-O c a]) [] d
theorem i0 (b c:ac) (a:J):(dw b c a).length=a:=by
 induction a with
 | zero=>rfl
 | succ a d=>show (dw b c a++[_]).length=_;rw[dm,d];rfl
theorem BL (c e:ac) (a b:J) (i:b<a):O (dw c e a) b=O c b-O e b:=by
 induction a with
 | zero=>omega
 | succ a h =>
  show O (dw c e a++[O c a-O e a]) b=_
  by_cases f:b<a
  ·rw[nb _ _ _ (by rw[i0];exact f)];exact h f
  ·have g:b=a:=E;subst g;have d:=i0 c e b;exact pA
theorem z7 (V:F) (o y:aG) (f z g Z3:J) (e b:ac) (m:FuncId) (A:bg ay) (d:F->F->F) (n:af) (R:an n o f e) (T:an n y g b)
  (ZQ:∀(W:bg ay) (i:af),c9 prog (b0 m W) i=.ok (.enter m W) i)
  (Q:∀(j k:F) (i:af),aY prog m (#[M j,M k]++A) i λ B Y=>B=aV (M (d j k)) /\ i=Y)
  (C:∀j k,cr j->cr k->cr (d j k)) (ZK:f<=16) (ZM:g<=29) (S:∀a,a<f->0<=O e a /\ O e a<=1000000) (D:∀a,a<g->cr (O b a)):
  aC 270 #[am V o f z,aa y g Z3,.func (.func m) #[] A] n (M (j3 d e b)):=by
 have Z5:=ab R.len;have x:=ab T.len;have Z6:=ab Q;clear Q;have t:=ab C;have v:=ab D;clear D;have w:=ab S;clear S;have Z8:=ab (Kq d t.o e b f w.o (λ a G=>v.o a (by rw[<- x.o];exact G)));have p:=az n (al #[M V,aa o f z] 29);clear C;go_enter func270,ntmps270;go_wp2;go_loop [7,17] (λ ZY r=>∃a:J,a<=f /\ r=M a /\ ZY=M (e9 d e b a)) (λ _ r=>f-(intOf r).toNat)
 case atStart=>exact⟨0,E,I,I⟩
 case round =>
  obtain⟨a,G,rfl,rfl⟩:=hrel;by_cases K:a<f
  ·obtain⟨ZV,ZH,rfl,ZS,ZX,ZP⟩:=R.at p K;have L:=w.o a K;go_wp2;go_loop [10,11,24] (λ Z4 ZZ s=>∃c:J,c<=g /\ s=M c /\ Z4=M (dk d b a c).1 /\ ZZ=aw (dk d b a c).2) (λ _ _ s=>g-(intOf s).toNat)
   case atStart=>exact⟨0,E,I,I,I⟩
   case round =>
    obtain⟨c,ZJ,rfl,rfl,rfl⟩:=hrel;by_cases Z0:c<g
    ·obtain⟨ZU,ZG,rfl,ZR,ZW,ZO⟩:=T.at p Z0;have ZT:=mu a c E;have l:U (dk d b a (c+1)=if bZ a c then (if (dk d b a c).2 then d (dk d b a c).1 (O b c) else O b c,ae) else dk d b a c):=rfl;cases ZE:bZ a c
     ·have X:a.testBit c=ak:=ZE;go_wp2;go_round
      case rel=>exact⟨c+1,E,by go_num,by rw[l.o,ZE];rfl,by rw[l.o,ZE];rfl⟩
      case measure=>simp[intOf];omega
     ·have X:a.testBit c=ae:=ZE;cases P:(dk d b a c).2
      ·go_wp2;exact wY
      ·go_wp2_with fail;refine(Z6.o _ _ _).mono ?_;rintro B ZF ⟨rfl,rfl⟩;go_wp2;exact wY
    ·have N:c=g:=E;have Z7:=ab N;clear N;have Z:U (dk d b a c=dk d b a b.length):=by show dk d b a c=_;rw[Z7.o,x.o]
     have q:=BK d t.o b g v.o a c E;have Z2:=q.1;have Z1:=q.2;have ZL:=lC _ _ L.1 L.2 Z2 Z1;have ZI:=Z8.o a E;have u:U (e9 d e b (a+1)=e9 d e b a+O e a*(dk d b a c).1):=by rw[Z.o];rfl
     have ZN:(a:F)<=16:=E;clear q;go_wp2;exact wt
  ·have H:a=f:=E;have Z9:U (e9 d e b a=j3 d e b):=by show e9 d e b a=e9 d e b e.length;rw[H,Z5.o]
   clear H;go_wp2;go_ret;exact⟨by rw[<- Z9.o];rfl,p⟩
theorem AH (n o:aG) (g y z:J) (e f:ac) (a:af) (w:an a n g e) (x:an a o g f) (H:g<=100) (p:∀b,b<g-> -1000<=O e b /\ O e b<=1000) (q:∀b,b<g-> -1000<=O f b /\ O f b<=1000):
  aY prog 155 #[aa n g y,aa o g z] a λ k j=>∃i,k=aV i /\ av j a.heap.size i (dw e f g) /\ ap a j:=by
 have s:=ab p;clear p;have t:=ab q;clear q;go_enter func155,ntmps155;go_wp2;go_loopw [5,6,10] (λ r _ m wr=>∃(b:J) (i:ay),b<=g /\ m=M b /\ r=i /\ av wr a.heap.size i (dw e f b) /\ ap a wr) (λ r _ m _=>g-(intOf m).toNat)
 case atStart =>
  exact r4
 case round =>
  exact vK
theorem AI (n o:aG) (g y z:J) (e f:ac) (a:af) (w:an a n g e) (x:an a o g f) (H:g<=100) (p:∀b,b<g-> -1000<=O e b /\ O e b<=1000) (q:∀b,b<g-> -1000<=O f b /\ O f b<=1000):
  aY prog 114 #[aa n g y,aa o g z] a λ k j=>∃i,k=aV i /\ av j a.heap.size i (dw e f g) /\ ap a j:=by
 have s:=ab p;clear p;have t:=ab q;clear q;go_enter func114,ntmps114;go_wp2;go_loopw [5,6] (λ r m wr=>∃(b:J) (i:ay),b<=g /\ m=M b /\ r=i /\ av wr a.heap.size i (dw e f b) /\ ap a wr) (λ r m _=>g-(intOf m).toNat)
 case atStart =>
  exact r4
 case round =>
  exact vK
theorem Ho (b c:F) (a:af):
  aY prog 340 #[M b,M c] a λ e d=>e=aV (M (min b c)) /\ a=d:=by
 go_enter func340,ntmps340;go_wp2;all_goals go_ret
 all_goals (refine⟨gZ ?_,I⟩;omega)
theorem Hg (c:bg ay) (a:af):c9 prog (b0 340 c) a=.ok (.enter 340 c) a:=by
 have g:(Tryz.f340.name== "runtime.NumGoroutine")=ak:=ah;have b:Tryz.f340.body.isNone=ak:=ah;have d:¬Tryz.f340.name= "runtime.NumGoroutine" :=by simpa using g
 have e:¬Tryz.f340.body=aj:=by intro f;rw[f] at b;simp at b
 simp only[b0,eC,run_program,ex,func340,cR,eB,aF d,aF e,ey]
theorem uM (a b:F) (c:cr a) (d:cr b):cr (min a b):=by unfold cr at *;omega
theorem np (n:F) (g A:aG) (c i b j:J) (e f:ac) (d:af) (u:an d g c e) (v:an d A b f)
  (t:c<=16) (s:b<=29) (m:∀a,a<c->0<=O e a /\ O e a<=1000000) (l:∀a,a<b->cr (O f a)):
  aC 282 #[am n g c i,aa A b j] d (M (j3 min e f)):=by
 have q:=ab m;clear m;have p:=ab l;clear l;go_enter func282,ntmps282;go_wp2_with fail;refine(z7 n g A c i b j e f 340 #[] min _ (u.below (az d _)) (v.below (az d _)) Hg (λ w x o=>Ho w x o) uM t s q.o p.o).mono ?_;rintro y z ⟨rfl,k⟩;obtain⟨_,_,r⟩:=dZ k;clear k;go_wp2;go_ret;exact⟨I,r⟩
theorem ME (a b:F):(if b<a then b else a)=min a b:=by split<;>omega
def fR (d:ac) (c e:J):F:=bx (λ b a=>if bZ c b then min a (O d b) else a) 2000 e
theorem CD (b:ac) (c e:J) (f:∀a,a<e->cr (O b a)) (a:J) (i:a<=e):cr (fR b c a):=by
 induction a with
 | zero=>exact(⟨aX,aX⟩:cr 2000)
 | succ a h =>
  have d:=h E
  have g:=f a E
  show cr (if bZ c a then min (fR b c a) (O b a) else fR b c a)
  split
  ·exact uM _ _ d g
  ·exact d
theorem tZ (c:J) (j:aG) (b m:J) (d:ac) (y:af) (k:c<1000000000) (l:an y j b d) (w:b<=29):
  aY prog 115 #[M c,aa j b m] y λ f e=>f=aV (M (fR d c b)) /\ y=e:=by
 have t:=l.cap;go_enter func115,ntmps115;go_wp2;go_loop [5,6] (λ o g=>∃a:J,a<=b /\ g=M a /\ o=M (fR d c a)) (λ _ g=>b-(intOf g).toNat)
 case atStart=>exact⟨0,E,I,I⟩
 case round =>
  obtain⟨a,v,rfl,rfl⟩:=hrel;by_cases n:a<b
  ·obtain⟨r,x,rfl,s,q,u⟩:=l.at bA n;have i:U (fR d c (a+1)=if bZ c a then min (fR d c a) (O d a) else fR d c a):=rfl;exact vY
  ·exact mP
theorem cv {d:F} {b:ac} (c:aI d b=ae):bK d=ae /\ b.length=aH d /\ b.length<=16 /\ (∀a,a<b.length->0<=O b a /\ O b a<=1000000) /\ 1<=aW b /\ aW b<=1000000 /\ bT b=1:=by
 exact xI
def gX (e b:ac) (c:J):F:=bx (λ a d=>d+O e a*fR b a b.length) 0 c
theorem Hp (c b:ac) (f:J) (h:∀a,a<f->0<=O c a /\ O c a<=1000000) (g:∀a,a<b.length->cr (O b a)) (a:J) (l:a<=f): -2000000000*(a:F)<=gX c b a /\ gX c b a<=2000000000*(a:F):=by
 induction a with
 | zero=>exact⟨by simp[gX,bx],by simp[gX,bx]⟩
 | succ a i =>
  have j:=i E
  have d:=h a E
  have e:=CD b a b.length g b.length aZ
  have k:=lC _ _ d.1 d.2 e.1 e.2
  show _<=gX c b a+O c a*fR b a b.length /\ gX c b a+O c a*fR b a b.length<=_
  push_cast
  omega
theorem Mf (b:ac) (c f:J) (g:∀a,a<f->cr (O b a)) (a:J) (p:a<=f):
  ((∀d,d<a->bZ c d=ak) /\ dk min b c a=(0,ak) /\ fR b c a=2000) \/ dk min b c a=(fR b c a,ae):=by
 induction a with
 | zero=>exact bj ⟨λ d o=>E,I,I⟩
 | succ a m =>
  have i:dk min b c (a+1)=if bZ c a then (if (dk min b c a).2 then min (dk min b c a).1 (O b a) else O b a,ae) else dk min b c a:=rfl
  have v:fR b c (a+1)=if bZ c a then min (fR b c a) (O b a) else fR b c a:=rfl
  have n:=g a E
  unfold cr at n
  cases l:bZ c a
  ·exact sf
  ·rw[l] at i v;rw[i,v];rcases m E with ⟨e,j,k⟩ | e
   ·right;rw[j,k];show (O b a,ae)=(min 2000 (O b a),ae);congr 1;omega
   ·right;rw[e];rfl
theorem Gf {a c:J} (e:a≠0) (h:a<2^c):∃d,d<c /\ bZ a d=ae:=by
 refine jJ λ f=>e (Nat.eq_of_testBit_eq λ b=>?_)
 rw[Nat.zero_testBit];by_cases g:b<c
 ·cases i:a.testBit b
  ·rfl
  ·exact bC ⟨b,g,i⟩ f
 ·exact Nat.testBit_lt_two_pow (cm h (Nat.pow_le_pow_right aX E))
theorem Mg (d a:ac) (k:O d 0=0) (i:∀b,b<a.length->cr (O a b)) (e:J) (n:e<=2^a.length) (b:J) (m:b<=e):e9 min d a b=gX d a b:=by
 induction b with
 | zero=>rfl
 | succ b l =>
  show e9 min d a b+O d b*(dk min a b a.length).1=gX d a b+O d b*fR a b a.length
  rw[l E]
  by_cases f:b=0
  ·subst f;rw[k,j9,j9]
  ·rcases Mf a b a.length i a.length aZ with ⟨c,_,_⟩ | c
   ·exact r6
   ·rw[c]
theorem Hh (Z2:F) (t u v:aG) (g W f X N:J) (e a c:ac) (j:af) (Z3:an j t g e) (ZG:an j u f a) (Z9:an j v f c)
  (ZN:g<=16) (Z6:1<=g) (ZP:f<=29) (x:O e 0=0) (H:∀b,b<g->0<=O e b /\ O e b<=1000000) (m:∀b,b<f-> -1000<=O a b /\ O a b<=1000) (n:∀b,b<f-> -1000<=O c b /\ O c b<=1000):
  aC 190 #[am Z2 t g W,aa u f X,aa v f N] j (aw (decide (0<gX e (dw a c f) g))):=by
 have s:=ab H;clear H;have l:=ab (i0 a c f);have r:U (∀b,b<f->cr (O (dw a c f) b)):= λ b i=>by
  rw[BL _ _ _ _ i];have:=m b i;have:=n b i;unfold cr;omega
 have T:=ab (Hp e (dw a c f) g s.o (λ b i=>r.o b (by rw[<- l.o];exact i)));have P:=ab x;clear x;have Q:=ab m;have R:=ab n;clear m n;go_enter func190,ntmps190;go_wp2_with fail;refine(AI _ _ _ _ _ a c _ (ZG.below (az j _)) (Z9.below (az j _)) E Q.o R.o).mono ?_;rintro ZW Z0 ⟨ZH,rfl,C,z⟩;obtain⟨ZI,d,ZX,rfl,D⟩:=C.ints;have Z5:d=f:=by rw[<- D.len];exact l.o
 subst Z5;obtain⟨ZM,Z4,Y⟩:=dZ z;clear z C;have V:U (gX e (dw a c d) 1=0):=by
  show (0:F)+O e 0*fR (dw a c d) 0 (dw a c d).length=0;rw[P.o,j9];rfl
 go_wp2;go_loopw [8,9] (λ Z1 q wr=>∃b:J,1<=b /\ b<=g /\ q=M b /\ Z1=M (gX e (dw a c d) b) /\ ap Z0 wr) (λ _ q _=>g-(intOf q).toNat)
 case atStart=>exact⟨1,E,Z6,I,by rw[V.o],Below.refl _ _⟩
 case round =>
  obtain⟨b,ZR,i,rfl,rfl,w⟩:=hrel;have y:=au Y w;have ZL:=ag w Z4;have G:=D.below w;by_cases A:b<g
  ·obtain⟨ZY,ZJ,rfl,ZV,ZZ,ZU⟩:=Z3.at y A;have B:=s.o b A;have p:=CD (dw a c d) b d r.o d aZ;have Z8:=p.1;have Z7:=p.2;have ZO:=lC _ _ B.1 B.2 Z8 Z7;have ZK:=T.o b E;have K:U (gX e (dw a c d) (b+1)=gX e (dw a c d) b+O e b*fR (dw a c d) b d):=by
    show gX e (dw a c d) b+O e b*fR (dw a c d) b (dw a c d).length=_;rw[l.o]
   have ZQ:(b:F)<=16:=E;have ZT:(0:F)<=(b:F):=E;have o:(b:F)<(g:F):=E;clear p;go_wp2;refine cC ?_;repeat (first | go_big_quiet_step ((go_at_call 115;exact ej (tZ _ _ _ _ _ _ E (G.below (aM _ _)) E))) | quiet_step ((go_at_call 115;exact ej (tZ _ _ _ _ _ _ E (G.below (aM _ _)) E))))
   exact pJ
  ·have o:b=g:=E;have S:=ab o;clear o;go_wp2;go_ret;exact⟨ct (by rw[<- S.o]),y⟩
theorem nr {d:F} {a:ac} (c:b7 d a=ae):(a.length:F)=d /\ ∀b,b<a.length-> -1000<=O a b /\ O a b<=1000:=by
 simp only[b7,b9,cR] at c;exact⟨c.1,λ b e=>bM.1 ((cp _ _).1 c.2 b e)⟩
theorem tD {b:F} {a:ac} (c:ci b a=ae):aI b a=ae /\ O a 0=0:=by
 simpa [ci] using c
def dE (c:F) (e:ac) (d f:J):F:=bx (λ b a=>if bZ d b then min a (O e b) else a) c f
def bS (c:F) (f b:ac) (d:J):F:=bx (λ a e=>e+O f a*dE c b a b.length) 0 d
def ca (a:ac) (c:J):ac:=bx (λ b d=>d++[-(O a b)]) [] c
theorem i2 (b:ac) (a:J):(ca b a).length=a:=by
 induction a with
 | zero=>rfl
 | succ a c=>show (ca b a++[_]).length=_;rw[dm,c];rfl
theorem qT (c:ac) (a b:J) (h:b<a):O (ca c a) b= -(O c b):=by
 induction a with
 | zero=>omega
 | succ a g =>
  show O (ca c a++[-(O c a)]) b=_
  by_cases e:b<a
  ·rw[nb _ _ _ (by rw[i2];exact e)];exact g e
  ·have f:b=a:=E;subst f;have d:=i2 c b;exact pA
theorem rn (b:F) (j:0<=b /\ b<=2000) (c:ac) (d f:J) (g:∀a,a<f->cr (O c a)) (a:J) (k:a<=f):cr (dE b c d a):=by
 induction a with
 | zero=>exact(⟨by show -2000<=b;omega,by show b<=2000;omega⟩:cr b)
 | succ a i =>
  have e:=i E
  have h:=g a E
  show cr (if bZ d a then min (dE b c d a) (O c a) else dE b c d a)
  split
  ·exact uM _ _ e h
  ·exact e
theorem mp (c:F) (i:0<=c /\ c<=2000) (d b:ac) (g:J) (j:∀a,a<g->0<=O d a /\ O d a<=1000000) (h:∀a,a<b.length->cr (O b a)) (a:J) (n:a<=g): -2000000000*(a:F)<=bS c d b a /\ bS c d b a<=2000000000*(a:F):=by
 induction a with
 | zero=>exact⟨by simp[bS,bx],by simp[bS,bx]⟩
 | succ a k =>
  have l:=k E
  have e:=j a E
  have f:=rn c i b a b.length h b.length aZ
  have m:=lC _ _ e.1 e.2 f.1 f.2
  show _<=bS c d b a+O d a*dE c b a b.length /\ bS c d b a+O d a*dE c b a b.length<=_
  push_cast
  omega
theorem Kr (f:F) (b:ac) (c g:J) (n:∀a,a<g->O b a<=f) (a:J) (q:a<=g):
  ((∀d,d<a->bZ c d=ak) /\ dk min b c a=(0,ak) /\ dE f b c a=f) \/ dk min b c a=(dE f b c a,ae):=by
 induction a with
 | zero=>exact bj ⟨λ d o=>E,I,I⟩
 | succ a m =>
  have i:dk min b c (a+1)=if bZ c a then (if (dk min b c a).2 then min (dk min b c a).1 (O b a) else O b a,ae) else dk min b c a:=rfl
  have v:dE f b c (a+1)=if bZ c a then min (dE f b c a) (O b a) else dE f b c a:=rfl
  have p:=n a E
  cases l:bZ c a
  ·exact sf
  ·rw[l] at i v;rw[i,v];rcases m E with ⟨e,j,k⟩ | e
   ·right;rw[j,k];show (O b a,ae)=(min f (O b a),ae);congr 1;omega
   ·right;rw[e];rfl
theorem Ks (g:F) (c f:ac) (b n:J) (p:∀a,a<n-> -g<=O c a) (q:∀a,a<n->O f a= -(O c a)) (a:J) (u:a<=n):
  ((∀d,d<a->bZ b d=ak) /\ dk max c b a=(0,ak) /\ dE g f b a=g) \/ dk max c b a=(-(dE g f b a),ae):=by
 induction a with
 | zero=>exact bj ⟨λ d o=>E,I,I⟩
 | succ a m =>
  have i:dk max c b (a+1)=if bZ b a then (if (dk max c b a).2 then max (dk max c b a).1 (O c a) else O c a,ae) else dk max c b a:=rfl
  have v:dE g f b (a+1)=if bZ b a then min (dE g f b a) (O f a) else dE g f b a:=rfl
  have s:=p a E
  have t:=q a E
  cases l:bZ b a
  ·exact sf
  ·rw[l] at i v;rw[i,v];rcases m E with ⟨e,j,k⟩ | e
   ·right;rw[j,k];show (O c a,ae)=(-(min g (O f a)),ae);congr 1;omega
   ·right;rw[e];show (max (-(dE g f b a)) (O c a),ae)=(-(min (dE g f b a) (O f a)),ae);congr 1;omega
theorem Kt (e:F) (d a:ac) (l:O d 0=0) (k:∀b,b<a.length->O a b<=e) (i:J) (o:i<=2^a.length) (b:J) (n:b<=i):e9 min d a b=bS e d a b:=by
 induction b with
 | zero=>rfl
 | succ b m =>
  show e9 min d a b+O d b*(dk min a b a.length).1=bS e d a b+O d b*dE e a b a.length
  rw[m E]
  by_cases f:b=0
  ·subst f;rw[l,j9,j9]
  ·rcases Kr e a b a.length k a.length aZ with ⟨c,_,_⟩ | c
   ·exact r6
   ·rw[c]
theorem BM (e:F) (d a:ac) (l:O d 0=0) (k:∀b,b<a.length-> -e<=O a b) (i:J) (o:i<=2^a.length) (b:J) (n:b<=i):e9 max d a b= -(bS e d (ca a a.length) b):=by
 induction b with
 | zero=>rfl
 | succ b m =>
  show e9 max d a b+O d b*(dk max a b a.length).1= -(bS e d (ca a a.length) b+O d b*dE e (ca a a.length) b (ca a a.length).length)
  rw[m E,i2]
  by_cases f:b=0
  ·subst f;rw[l,j9,j9];omega
  ·rcases Ks e a (ca a a.length) b a.length k (λ p g=>qT _ _ _ g) a.length aZ with ⟨c,_,_⟩ | c
   ·exact r6
   ·rw[c];show _+O d b* -(dE e (ca a a.length) b a.length)=_;rw[Int.mul_neg];omega
def eT (b:J->F) (d:J):J:=bx (λ c a=>if b a<b c then c else a) 0 d
theorem q8 (b:J->F) (a:J) (e:0<a):eT b a<a:=by
 induction a with
 | zero=>omega
 | succ a d =>
  show (if b (eT b a)<b a then a else eT b a)<a+1
  split
  ·omega
  ·by_cases c:a=0
   ·subst c;show 0<1;omega
   ·have:=d E;omega
theorem Mh (b:J->F) (a:J):eT b a<=a:=by
 by_cases c:0<a
 ·exact h3 (q8 b a c)
 ·obtain rfl:a=0:=E;exact bL _
theorem Hq (b c:J->F) (a:J) (e:∀d,d<a->b d=c d):eT b a=eT c a:=by
 induction a with
 | zero=>rfl
 | succ a h =>
  have f:=h λ d j=>e d E
  show (if b (eT b a)<b a then a else eT b a)=(if c (eT c a)<c a then a else eT c a)
  by_cases g:a=0
  ·subst g;show (if b 0<b 0 then 0 else 0)=(if c 0<c 0 then 0 else 0);rw[aF E,aF E]
  ·have i:=q8 b a E;rw[f,e a E,e (eT c a) (by rw[<- f];omega)]
theorem Hr (b c:F) (a:af):
  aY prog 271 #[M b,M c] a λ e d=>e=aV (M (max b c)) /\ a=d:=by
 go_enter func271,ntmps271;go_wp2;all_goals go_ret
 all_goals (refine⟨gZ ?_,I⟩;omega)
theorem Hi (c:bg ay) (a:af):c9 prog (b0 271 c) a=.ok (.enter 271 c) a:=by
 have g:(Tryz.f271.name== "runtime.NumGoroutine")=ak:=ah;have b:Tryz.f271.body.isNone=ak:=ah;have d:¬Tryz.f271.name= "runtime.NumGoroutine" :=by simpa using g
 have e:¬Tryz.f271.body=aj:=by intro f;rw[f] at b;simp at b
 simp only[b0,eC,run_program,ex,func271,cR,eB,aF d,aF e,ey]
theorem MH (a b:F) (c:cr a) (d:cr b):cr (max a b):=by unfold cr at *;omega
theorem qv (n:F) (g A:aG) (c i b j:J) (e f:ac) (d:af) (u:an d g c e) (v:an d A b f)
  (t:c<=16) (s:b<=29) (m:∀a,a<c->0<=O e a /\ O e a<=1000000) (l:∀a,a<b->cr (O f a)):
  aC 154 #[am n g c i,aa A b j] d (M (j3 max e f)):=by
 have q:=ab m;clear m;have p:=ab l;clear l;go_enter func154,ntmps154;go_wp2_with fail;refine(z7 n g A c i b j e f 271 #[] max _ (u.below (az d _)) (v.below (az d _)) Hi (λ w x o=>Hr w x o) MH t s q.o p.o).mono ?_;rintro y z ⟨rfl,k⟩;obtain⟨_,_,r⟩:=dZ k;clear k;go_wp2;go_ret;exact⟨I,r⟩
theorem qo (c:J) (j:aG) (b m:J) (d:ac) (y:af) (k:c<1000000000) (l:an y j b d) (w:b<=29):
  aY prog 207 #[M c,aa j b m] y λ f e=>f=aV (M (dE 1000 d c b)) /\ y=e:=by
 have t:=l.cap;go_enter func207,ntmps207;go_wp2;go_loop [5,6] (λ o g=>∃a:J,a<=b /\ g=M a /\ o=M (dE 1000 d c a)) (λ _ g=>b-(intOf g).toNat)
 case atStart=>exact⟨0,E,I,I⟩
 case round =>
  obtain⟨a,v,rfl,rfl⟩:=hrel;by_cases n:a<b
  ·obtain⟨r,x,rfl,s,q,u⟩:=l.at bA n;have i:U (dE 1000 d c (a+1)=if bZ c a then min (dE 1000 d c a) (O d a) else dE 1000 d c a):=rfl;exact vY
  ·exact mP
theorem oK (q:F) (i u:aG) (c m f Q:J) (d a:ac) (g:af) (W:an g i c d) (D:an g u f a)
  (Z0:c<=16) (T:1<=c) (Z3:f<=29) (v:O d 0=0) (C:∀b,b<c->0<=O d b /\ O d b<=1000000) (y:∀b,b<f->cr (O a b)):
  aC 186 #[am q i c m,aa u f Q] g (M (bS 1000 d a c)):=by
 have s:=ab C;clear C;have r:=ab y;clear y;have t:=ab D.len;have N:=ab (mp 1000 E d a c s.o (λ b z=>r.o b (by rw[<- t.o];exact z)));have H:=ab v;clear v;have x:=az g (al #[M q,aa i c m] 29);have P:U (bS 1000 d a 1=0):=by
  show (0:F)+O d 0*dE 1000 a 0 a.length=0;rw[H.o,j9];rfl
 obtain⟨l,n⟩:∃l,U (g.alloc (al #[M q,aa i c m] 29)=l):=⟨_,I⟩;have V: l.cell? (ad g.heap.size 1)=Z (aa i c m):=by rw[<- n.o];simp
 rw[n.o] at x;go_enter func186,ntmps186;go_wp2;rw[n.o];go_loopw [5,6] (λ X p wr=>∃b:J,1<=b /\ b<=c /\ p=M b /\ X=M (bS 1000 d a b) /\ ap l wr) (λ _ p _=>c-(intOf p).toNat)
 case atStart=>exact⟨1,E,T,I,by rw[P.o],Below.refl _ _⟩
 case round =>
  obtain⟨b,Z5,z,rfl,rfl,w⟩:=hrel;have e:=au x w;have ZZ:=ag w V;have G:=D.below e;by_cases A:b<c
  ·obtain⟨Z9,ZX,rfl,Z8,Y,Z7⟩:=W.at e A;have B:=s.o b A;have o:=rn 1000 E a b f r.o f aZ;have R:=o.1;have S:=o.2;have Z1:=lC _ _ B.1 B.2 R S;have ZY:=N.o b E;have K:U (bS 1000 d a (b+1)=bS 1000 d a b+O d b*dE 1000 a b f):=by
    show bS 1000 d a b+O d b*dE 1000 a b a.length=_;rw[t.o]
   have Z4:(b:F)<=16:=E;have Z6:(0:F)<=(b:F):=E;have j:(b:F)<(c:F):=E;clear o;go_wp2;refine cC ?_;repeat (first | go_big_quiet_step ((go_at_call 207;exact ej (qo _ _ _ _ _ _ E (G.below (aM _ _)) E))) | quiet_step ((go_at_call 207;exact ej (qo _ _ _ _ _ _ E (G.below (aM _ _)) E))))
   exact pJ
  ·have j:b=c:=E;exact pG
theorem Ax (m:aG) (g u:J) (e:ac) (a:af) (v:an a m g e) (G:g<=100) (o:∀b,b<g->cr (O e b)):
  aY prog 116 #[aa m g u] a λ i K=>∃f,i=aV f /\ av K a.heap.size f (ca e g) /\ ap a K:=by
 have l:=ab o;clear o;go_enter func116,ntmps116;go_wp2;go_loopw [3,4] (λ q k wr=>∃(b:J) (f:ay),b<=g /\ k=M b /\ q=f /\ av wr a.heap.size f (ca e b) /\ ap a wr) (λ q k _=>g-(intOf k).toNat)
 case atStart =>
  exact r4
 case round =>
  obtain⟨b,f,F,rfl,rfl,d,c⟩:=hrel;by_cases j:b<g
  ·obtain⟨n,H,rfl,z,y,A⟩:=v.at c j;have B:=(l.o b j).1;have C:=(l.o b j).2;have t:=ab (i2 e b);go_wp2_with (at_builtin;refine iz I _ _ I a.heap.size _ _ b t.o a6 (d.below (bA.alloc aZ _)) _ _ (-(O e b)) a6 (by simp;first | done | (apply bV;omega)) E (by simp;have:=c.size;omega) ?_;intro x w K s p);have r:=ab (cV (B:=a.heap.size) (c.alloc (by have:=c.size;omega) _) (by simp;have:=c.size;omega) p (λ n i=>(d.block n i).1));clear p d c;go_roundw
   case rel=>exact⟨b+1,_,E,by go_num,I,s,r.o⟩
   case measure=>simp[intOf];omega
  ·exact r7
theorem D7 (k:aG) (g p:J) (a:ac) (j:af) (f:an j k g a) (L:g<=100000000) (v:1<=g):
  aC 187 #[aa k g p] j (M (eT (O a) g)):=by
 have C:=f.cap;go_enter func187,ntmps187;go_wp2;go_loopw [3,4] (λ w i wr=>∃b:J,1<=b /\ b<=g /\ i=M b /\ w=M (eT (O a) b) /\ ap j wr) (λ _ i _=>g-(intOf i).toNat)
 case atStart=>exact⟨1,E,v,I,by show _=M ((if O a 0<O a 0 then 0 else 0:J):F);simp,Below.refl _ _⟩
 case round =>
  obtain⟨b,Z9,K,rfl,rfl,c⟩:=hrel;by_cases u:b<g
  ·have s:=q8 (O a) b E;obtain⟨n,d⟩:∃n,U (eT (O a) b=n):=⟨_,I⟩;rw[d.o] at s;rw[d.o];obtain⟨y,N,rfl,A,x,D⟩:=f.at c u;obtain⟨z,P,e,_,_,H⟩:=f.at c (show n<g from E);injection e with e
   injection e with q r
   subst q r;have o:U (eT (O a) (b+1)=if O a n<O a b then b else n):=by rw[<- d.o];rfl
   refine k7 ?_;intro G Z9;refine oo ?_;intro X Y;by_cases B:O a n<O a b;all_goals
    go_wp2;refine gj ah ah ?_;repeat (first | go_big_quiet_step ((fail)) | quiet_step ((fail)))
    refine dn ?_;refine dg ?_;intro Q l;have m:=ab (au c l);clear l;go_wp2;go_roundw
    case rel=>exact⟨b+1,E,E,by go_num,by rw[o.o];first | rw[a7 E] | rw[aF E],m.o⟩
    case measure=>simp[intOf];omega
  ·have t:b=g:=E;subst t;go_wp2;go_ret;exact⟨I,c⟩
theorem tN (t:aG) (g K:J) (A:J->ay) (k:FuncId) (u:bg ay) (c:J->F) (i:af) (Z8:g<=100000000)
  (V:∀(B:bg ay) (d:af),c9 prog (b0 k B) d=.ok (.enter k B) d)
  (y:∀b,b<g->∃e f,t=Z ⟨e,f,aj⟩ /\ e<i.heap.size /\ i.cell? ⟨e,f+b,aj⟩=Z (A b))
  (z:∀(b:J) (d:af),b<g->ap i d->aY prog k (#[A b]++u) d λ L C=>L=aV (M (c b)) /\ ap d C):
  aC 315 #[aa t g K,.func (.func k) #[] u] i (M (eT c g)):=by
 have j:=ab z;clear z;have s:=ab y;clear y;go_enter func315,ntmps315;go_wp2;go_loopw [5,6,7,10] (λ Q _ _ r wr=>∃b:J,b<=g /\ r=M b /\ Q=M (eT c b) /\ ap i wr) (λ _ _ _ r _=>g-(intOf r).toNat)
 case atStart=>exact⟨0,E,I,I,Below.refl _ _⟩
 case round =>
  obtain⟨b,W,rfl,rfl,a⟩:=hrel;by_cases q:b<g
  ·have l:eT c b<g:=by have:=Mh c b;omega
   obtain⟨n,m⟩:∃n,U (eT c b=n):=⟨_,I⟩;rw[m.o] at l;rw[m.o];obtain⟨e,f,rfl,p,w⟩:=s.o b q;obtain⟨S,Z7,o,_,x⟩:=s.o n l;injection o with o
   injection o with N O
   subst N O;replace w:=(a.cell (p:=⟨e,f+b,aj⟩) p).trans w;replace x:=(a.cell (p:=⟨e,f+n,aj⟩) p).trans x;have R:=cm p a.size;have H:U (eT c (b+1)=if c n<c b then b else n):=by rw[<- m.o];rfl
   refine k7 ?_;intro G Z9;refine oo ?_;intro X Y;by_cases T:c n<c b;all_goals
    go_wp2;refine gj ah ah ?_;repeat (first | go_big_quiet_step ((first | exact aQ (j.o b _ q (a.trans ((aM _ _).mono a.size))) | exact aQ (j.o n _ l (a.trans ((aM _ _).mono a.size))))) | quiet_step ((first | exact aQ (j.o b _ q (a.trans ((aM _ _).mono a.size))) | exact aQ (j.o n _ l (a.trans ((aM _ _).mono a.size))))))
    refine dn ?_;refine dg ?_;intro Z6 v;have D:=ab (au a v);clear v;go_wp2;go_roundw
    case rel=>exact⟨b+1,E,by go_num,by rw[H.o];first | rw[a7 E] | rw[aF E],D.o⟩
    case measure=>simp[intOf];omega
  ·have P:b=g:=E;subst P;go_wp2;go_ret;exact⟨I,a⟩
def fc (c:a8) (a:J->F) (b:J):F:=if c then (eT a b:F) else -1
def cQ (a:J->F) (c:J):ac:=bx (λ b d=>d++[a b]) [] c
theorem gn (b:J->F) (a:J):(cQ b a).length=a:=by
 induction a with
 | zero=>rfl
 | succ a c=>show (cQ b a++[_]).length=_;rw[dm,c];rfl
theorem uC (c:J->F) (a b:J) (h:b<a):O (cQ c a) b=c b:=by
 induction a with
 | zero=>omega
 | succ a g =>
  show O (cQ c a++[c a]) b=_
  by_cases e:b<a
  ·rw[nb _ _ _ (by rw[gn];exact e)];exact g e
  ·have f:b=a:=E;subst f;have d:=gn c b;exact pA
theorem Gg (b:J->F) (a:J):eT (O (cQ b a)) a=eT b a:=Hq _ _ _ λ d c=>uC b a d c
theorem jk {b:F} {c:ac} {a:aU (ac)} (d:ce b c a=ae):
  aI b c=ae /\ O c 0=0 /\ 1<=a.length /\ a.length<=8 /\ ∀f,f<a.length->b7 b (aO a f)=ae:=by
 simp only[ce,b9] at d;obtain⟨g,h,i⟩:=d;have e:=tD g;have j:=bM.1 h;exact⟨e.1,e.2,E,E,(cp _ _).1 i⟩
structure fu (s:F) (n m:J) (xs gs:ac):Prop where
 n16:n<=16
 n1:1<=n
 m4:m<=4
 m1:1<=m
 pow:n=2^m
 xlen:xs.length=n
 glen:gs.length=m
 zero:O xs 0=0
 xb:∀k,k<n->0<=O xs k /\ O xs k<=1000000
 gb:∀k,k<m->cr (O gs k)
 gb1:∀k,k<m-> -1000<=O gs k /\ O gs k<=1000
theorem js {b:F} {c d:ac} {j e:J} (p:aI b c=ae) (k:O c 0=0) (m:b7 b d=ae) (h:c.length=j) (n:d.length=e):fu b j e c d:=by
 obtain⟨i,o,r,l,_,_,_⟩:=cv p;obtain⟨s,f⟩:=nr m;have t:=cG.1 i;have u:=b8 i;have q:b.toNat=e:=E;refine⟨E,E,E,E,?_,h,n,k,λ a g=>l a E,λ a g=>?_,λ a g=>f a E⟩
 ·rw[<- h,o,<- q];rfl
 ·have:=f a E;unfold cr;omega
theorem fu.lo {s:F} {d g:J} {b c:ac} (a:fu s d g b c):j3 min b c=bS 1000 b c d:=by
 show e9 min b c b.length=_;rw[a.xlen];exact Kt 1000 b c a.zero (λ f e=>(a.gb1 f (by rw[<- a.glen];exact e)).2) d (by rw[a.glen,<- a.pow];exact bL _) d aZ
theorem fu.hi {h:F} {d e:J} {b c:ac} (a:fu h d e b c):j3 max b c= -(bS 1000 b (ca c e) d):=by
 show e9 max b c b.length=_;rw[a.xlen,<- a.glen];exact BM 1000 b c a.zero (λ g f=>(a.gb1 g (by rw[<- a.glen];exact f)).1) d (by rw[a.glen,<- a.pow];exact bL _) d aZ
theorem fu.neg {g:F} {f b:J} {h c:ac} (e:fu g f b h c):∀a,a<b->cr (O (ca c b) a):= λ a d=>by
 rw[qT _ _ _ d];have:=e.gb a d;unfold cr at *;omega
theorem FQ (e:J) (u:F) (i j:aG) (g l f m:J) (d c:ac) (a:af) (o:an a i g d) (p:an a j f c) (k:fu u g f d c) (r: a.cell? (ad e 0)=Z (M u)) (s: a.cell? (ad e 1)=Z (aa i g l)):
  aC 316 #[aa j f m,br e] a (M (j3 min d c)):=by
 have b:=ab k;clear k;go_enter func316,ntmps316;go_wp2_with fail;refine(np u _ _ _ _ _ _ d c _ o p b.o.n16 (by have:=b.o.m4;omega) b.o.xb b.o.gb).mono ?_;rintro q t ⟨rfl,n⟩;go_wp2;go_ret;exact⟨I,n⟩
theorem Fq (c:bg ay) (a:af):c9 prog (b0 316 c) a=.ok (.enter 316 c) a:=by
 have g:(Tryz.f316.name== "runtime.NumGoroutine")=ak:=ah;have b:Tryz.f316.body.isNone=ak:=ah;have d:¬Tryz.f316.name= "runtime.NumGoroutine" :=by simpa using g
 have e:¬Tryz.f316.body=aj:=by intro f;rw[f] at b;simp at b
 simp only[b0,eC,run_program,ex,func316,cR,eB,aF d,aF e,ey]
theorem F6 (e:F) (y z:aG) (g G r L:J) (c:ac) (a:aU (ac)) (m:af) (x:an m y g c) (o:dj m z r a):
  aC 246 #[am e y g G,aa z r L] m (M (fc (ce e c a) (λ b=>bS 1000 c (aO a b) c.length) r)):=by
 have n:=az m (al #[M e,aa y g G] 29);cases i:ce e c a
 ·go_enter func246,ntmps246;exact sy
 ·obtain⟨C,B,Z9,Z8,A⟩:=jk i;refine k5 ?_;intro D H p K;clear A B;obtain⟨T,N⟩:=o.vals;have w:=ab N;clear N;have Q:r<=100000000:=by have:=p.o;omega
  go_enter func246,ntmps246;go_wp2_with fail;refine k4 ?_;rintro f E ⟨rfl,j⟩;obtain⟨R,S,l⟩:=dZ j;clear j;go_wp2_with fail;refine(tN z r L T 316 #[br m.heap.size] (λ b=>bS 1000 c (aO a b) c.length) _ Q Fq ?_ ?_).mono ?_
  ·exact sj
  ·intro b P q t;refine sG ?_;intro u s v f k d;refine(FQ m.heap.size e _ _ _ _ _ _ c (aO a b) P ((x.below l).below t) ((k.below l).below t) d (ag t R) (ag t S)).mono ?_;rintro f Z6 ⟨rfl,O⟩;refine⟨gZ ?_,O⟩;first | rw[d.lo,d.xlen,d.glen] | rw[d.lo,d.xlen]
  exact sv
theorem EF (g:F) (q Z0:aG) (m r c ZW:J) (n:ac) (e:aU (ac)) (a:af) (x:an a q m n) (o:dj a Z0 c e):
  aC 87 #[am g q m r,aa Z0 c ZW] a (M (fc (ce g n e) (λ b=>bS 1000 n (aO e b) n.length) c)):=by
 have ZN:Below a.heap.size a ((a.alloc (al #[M g,aa q m r] 29)).alloc (al #[] 3)):=(az a _).alloc ar _;cases X:ce g n e
 ·go_enter func87,ntmps87;exact rW
 ·obtain⟨Zz,B,ZM,ZL,A⟩:=jk X;refine k5 ?_;intro D H p K;clear A B;have ZJ:=o.cap;have Z6:1<=c:=by have:=p.o;omega
  have ZG:c<=8:=by have:=p.o;omega
  obtain⟨u,Z1⟩:∃u:J->F,U (u= λ b=>bS 1000 n (aO e b) n.length):=⟨_,I⟩;have ZX:U (∀b,u b=bS 1000 n (aO e b) n.length):= λ b=>by rw[Z1.o]
  rw[<- Z1.o];go_enter func87,ntmps87;go_wp2_with fail;refine qg ?_;intro j i;refine fg ?_;intro s t;have ZU:av j (a.heap.size+1) (aq (a.heap.size+1) 0 0) (cQ u 0):=by
   exact rV
  refine ow ?_;intro O;refine e5 ?_;intro l;clear i;go_wp2;go_loopw [5,6] (λ ZZ Z5 wr=>∃(b:J) (Z4:ay),b<=c /\ Z5=M b /\ ZZ=Z4 /\ av wr (a.heap.size+1) Z4 (cQ u b) /\ Below (a.heap.size+1) j wr /\ j.heap.size<=wr.heap.size) (λ ZZ Z5 _=>c-(intOf Z5).toNat)
  case atStart=>exact⟨0,_,E,I,I,ZU,Below.refl _ _,bL _⟩
  case round =>
   obtain⟨b,Z4,ZH,rfl,rfl,G,y,ZF⟩:=hrel;refine iy ?_;intro f w z;by_cases Y:b<c
   ·obtain⟨Z7,ZE,ZP,S,Z8,rfl,ZK,ZO,ZI,N⟩:=o.at f Y;refine tc ?_;intro v W;have Z3:U (bS 1000 n (aO e b) m=u b):=by rw[ZX.o b];first | rw[v.o.xlen,v.o.glen];exact rfl | rw[v.o.xlen];exact rfl
    refine l4 ?_;intro P Q;go_wp2;refine l7 7 _ _ ah ah I I I (λ _ _ _ _ _ ZV=>ZV) ⟨_,I⟩ ?_;refine dY ?_;repeat (first | go_big_quiet_step ((go_at_call 186;exact aQ (oK g _ _ _ _ _ _ n (aO e b) _ ((x.below f).below (aM _ _)) (N.below (aM _ _)) v.o.n16 v.o.n1 (by have:=v.o.m4;omega) v.o.zero v.o.xb v.o.gb))) | quiet_step ((go_at_call 186;exact aQ (oK g _ _ _ _ _ _ n (aO e b) _ ((x.below f).below (aM _ _)) (N.below (aM _ _)) v.o.n16 v.o.n1 (by have:=v.o.m4;omega) v.o.zero v.o.xb v.o.gb))))
    exact rU
   ·exact sx
theorem Fr (e:J) (u:F) (i j:aG) (g l f m:J) (d c:ac) (a:af) (o:an a i g d) (p:an a j f c) (k:fu u g f d c) (r: a.cell? (ad e 0)=Z (M u)) (s: a.cell? (ad e 1)=Z (aa i g l)):
  aC 317 #[aa j f m,br e] a (M (j3 max d c)):=by
 have b:=ab k;clear k;go_enter func317,ntmps317;go_wp2_with fail;refine(qv u _ _ _ _ _ _ d c _ o p b.o.n16 (by have:=b.o.m4;omega) b.o.xb b.o.gb).mono ?_;rintro q t ⟨rfl,n⟩;go_wp2;go_ret;exact⟨I,n⟩
theorem EZ (c:bg ay) (a:af):c9 prog (b0 317 c) a=.ok (.enter 317 c) a:=by
 have g:(Tryz.f317.name== "runtime.NumGoroutine")=ak:=ah;have b:Tryz.f317.body.isNone=ak:=ah;have d:¬Tryz.f317.name= "runtime.NumGoroutine" :=by simpa using g
 have e:¬Tryz.f317.body=aj:=by intro f;rw[f] at b;simp at b
 simp only[b0,eC,run_program,ex,func317,cR,eB,aF d,aF e,ey]
theorem FR (e:F) (y z:aG) (g G r L:J) (c:ac) (a:aU (ac)) (m:af) (x:an m y g c) (o:dj m z r a):
  aC 247 #[am e y g G,aa z r L] m (M (fc (ce e c a) (λ b=> -(bS 1000 c (ca (aO a b) (aO a b).length) c.length)) r)):=by
 have n:=az m (al #[M e,aa y g G] 29);cases i:ce e c a
 ·go_enter func247,ntmps247;exact sy
 ·obtain⟨C,B,Z9,Z8,A⟩:=jk i;refine k5 ?_;intro D H p K;clear A B;obtain⟨T,N⟩:=o.vals;have w:=ab N;clear N;have Q:r<=100000000:=by have:=p.o;omega
  go_enter func247,ntmps247;go_wp2_with fail;refine k4 ?_;rintro f E ⟨rfl,j⟩;obtain⟨R,S,l⟩:=dZ j;clear j;go_wp2_with fail;refine(tN z r L T 317 #[br m.heap.size] (λ b=> -(bS 1000 c (ca (aO a b) (aO a b).length) c.length)) _ Q EZ ?_ ?_).mono ?_
  ·exact sj
  ·intro b P q t;refine sG ?_;intro u s v f k d;refine(Fr m.heap.size e _ _ _ _ _ _ c (aO a b) P ((x.below l).below t) ((k.below l).below t) d (ag t R) (ag t S)).mono ?_;rintro f Z6 ⟨rfl,O⟩;refine⟨gZ ?_,O⟩;first | rw[d.hi,d.xlen,d.glen] | rw[d.hi,d.xlen]
  exact sv
theorem AJ (c:F) (d o:aG) (a f g u:J) (i W:ac) (b:af) (D:an b d a i) (H:an b o g W) (p:fu c a g i W):
  aC 188 #[am c d a f,aa o g u] b (M (-(bS 1000 i (ca W g) a))):=by
 have m:=az b (al #[M c,aa d a f] 29);have G:=D.below m;have X:=H.below m;have e:=ab p;clear p;have A:=e.o.n16;have z:g<=29:=by have:=e.o.m4;omega
 have y:g<=100:=E;have r:(b.alloc (al #[M c,aa d a f] 29)).cell? (ad b.heap.size 0)=Z (M c):=ar;have s:(b.alloc (al #[M c,aa d a f] 29)).cell? (ad b.heap.size 1)=Z (aa d a f):=ar;have n:=ab (mp 1000 E i (ca W g) a e.o.xb (λ K q=>e.o.neg K (by rw[i2] at q;exact q)) a aZ);have R:=n.o.1;have S:=n.o.2;go_enter func188,ntmps188;go_wp2;go_region_held3 (λ k=>k.cell? (ad b.heap.size 0)=Z (M c) /\ k.cell? (ad b.heap.size 1)=Z (aa d a f) /\ Below (b.alloc (al #[M c,aa d a f] 29)).heap.size (b.alloc (al #[M c,aa d a f] 29)) k) (first | (refine⟨by assumption,by assumption,by assumption⟩;done) | (refine⟨by simp[*],by simp[*],?_⟩;exact bB;done)) (first | (go_at_call 116;refine(Ax _ _ _ W _ (X.below (bI _)) y e.o.gb).mono ?_;rintro v U ⟨T,rfl,C,w⟩;obtain⟨P,O,Q,rfl,t⟩:=C.ints;have B:O=g:=(by rw[<- t.len];exact i2 _ _);subst B;have j:=au (bI (b.alloc (al #[M c,aa d a f] 29))) w;have L:=ag j r;have N:=ag j s) | (go_at_call 186;refine(oK c _ _ _ _ _ _ i (ca W _) _ (G.below j) t A e.o.n1 z e.o.zero e.o.xb e.o.neg).mono ?_;rintro v V ⟨rfl,x⟩;have l:=au j x;have L:=ag l r;have N:=ag l s));all_goals
  go_wp2;go_ret;exact⟨gZ (bV _ E),m.trans (l.mono ar)⟩
theorem D6 (g:F) (q Z0:aG) (m r c ZW:J) (n:ac) (e:aU (ac)) (a:af) (x:an a q m n) (o:dj a Z0 c e):
  aC 88 #[am g q m r,aa Z0 c ZW] a (M (fc (ce g n e) (λ b=> -(bS 1000 n (ca (aO e b) (aO e b).length) n.length)) c)):=by
 have ZN:Below a.heap.size a ((a.alloc (al #[M g,aa q m r] 29)).alloc (al #[] 3)):=(az a _).alloc ar _;cases X:ce g n e
 ·go_enter func88,ntmps88;exact rW
 ·obtain⟨Zz,B,ZM,ZL,A⟩:=jk X;refine k5 ?_;intro D H p K;clear A B;have ZJ:=o.cap;have Z6:1<=c:=by have:=p.o;omega
  have ZG:c<=8:=by have:=p.o;omega
  obtain⟨u,Z1⟩:∃u:J->F,U (u= λ b=> -(bS 1000 n (ca (aO e b) (aO e b).length) n.length)):=⟨_,I⟩;have ZX:U (∀b,u b= -(bS 1000 n (ca (aO e b) (aO e b).length) n.length)):= λ b=>by rw[Z1.o]
  rw[<- Z1.o];go_enter func88,ntmps88;go_wp2_with fail;refine qg ?_;intro j i;refine fg ?_;intro s t;have ZU:av j (a.heap.size+1) (aq (a.heap.size+1) 0 0) (cQ u 0):=by
   exact rV
  refine ow ?_;intro O;refine e5 ?_;intro l;clear i;go_wp2;go_loopw [5,6] (λ ZZ Z5 wr=>∃(b:J) (Z4:ay),b<=c /\ Z5=M b /\ ZZ=Z4 /\ av wr (a.heap.size+1) Z4 (cQ u b) /\ Below (a.heap.size+1) j wr /\ j.heap.size<=wr.heap.size) (λ ZZ Z5 _=>c-(intOf Z5).toNat)
  case atStart=>exact⟨0,_,E,I,I,ZU,Below.refl _ _,bL _⟩
  case round =>
   obtain⟨b,Z4,ZH,rfl,rfl,G,y,ZF⟩:=hrel;refine iy ?_;intro f w z;by_cases Y:b<c
   ·obtain⟨Z7,ZE,ZP,S,Z8,rfl,ZK,ZO,ZI,N⟩:=o.at f Y;refine tc ?_;intro v W;have Z3:U (-(bS 1000 n (ca (aO e b) S) m)=u b):=by rw[ZX.o b];first | rw[v.o.xlen,v.o.glen];exact rfl | rw[v.o.xlen];exact rfl
    refine l4 ?_;intro P Q;go_wp2;refine l7 7 _ _ ah ah I I I (λ _ _ _ _ _ ZV=>ZV) ⟨_,I⟩ ?_;refine dY ?_;repeat (first | go_big_quiet_step ((go_at_call 188;exact aQ (AJ g _ _ _ _ _ _ n (aO e b) _ ((x.below f).below (aM _ _)) (N.below (aM _ _)) v.o))) | quiet_step ((go_at_call 188;exact aQ (AJ g _ _ _ _ _ _ n (aO e b) _ ((x.below f).below (aM _ _)) (N.below (aM _ _)) v.o))))
    exact rU
   ·exact sx
end Go.Proofs.YtkjnhlpccgjfhaaGreatDoor
