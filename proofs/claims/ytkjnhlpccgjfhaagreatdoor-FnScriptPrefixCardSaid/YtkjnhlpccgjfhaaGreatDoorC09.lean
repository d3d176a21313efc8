/- A part of the proof: lemmas (my texts, shortened by a program of mine). -/
import Derived.Deep.RegionHeld3
import Derived.Test.YtkjnhlpccgjfhaaGreatDoorC08
set_option linter.all false
set_option maxRecDepth 100000
set_option maxHeartbeats 4000000
namespace Go.Proofs.YtkjnhlpccgjfhaaGreatDoor
open Go.RowKit
open Go.Proofs.Tryz
open Bool renaming and_eq_true->b9,false->ak,true->ae
open Classical renaming byContradiction->jJ
open Go renaming Value->ay,World->af,bodyPost_ret->aK,results->aJ
open Go.IntWalk renaming i64_in->bV
open Go.Obj renaming cells->al
open Go.Value renaming agg->ba,bool->aw,slice->aa,tuple->aL
open Go.World renaming ownsRow_lit->fF
open Int renaming le_refl->fE,toNat_natCast->cI
open List renaming length_append->dm,length_set->iu,mem_cons_of_mem->kN
open Option renaming none->aj,some->Z
open _root_ renaming Bool->a8,Int->F,Nat->J,absurd->bC,decide_eq_true->fW,if_neg->aF,if_pos->a7,of_decide_eq_true->n3,rfl->I
variable {p q:Prop}
theorem Jx (b c:F):bH (-b) c=bH b c:=by
 rw[Bool.eq_iff_iff];simp only[bH,b9,bM,Int.neg_gcd];constructor
 ·rintro⟨⟨d,e⟩,a⟩;exact⟨⟨E,E⟩,a⟩
 ·rintro⟨⟨d,e⟩,a⟩;exact⟨⟨E,E⟩,a⟩
theorem Mn (a b:F):bv (-a) b=⟨-(bv a b).num,(bv a b).den,(bv a b).ok⟩:=by
 have c:gy (-a) b=gy a b:=by unfold gy;rw[Int.neg_gcd]
 unfold bv;rw[c,Int.neg_tdiv,Jx];split
 ·rfl
 ·rfl
theorem Jy {a b:F} (c:(bv a b).ok=ae):bH (bv a b).num (bv a b).den=ae:=by
 unfold bv at *;split at c
 ·rename_i d;rw[a7 d];exact d
 ·cases c
def ly (a:F):F:= -(min (max a (-2000)) 2000)
def hp (a:ac) (c:J):ac:=bx (λ b d=>d++[ly (O a b)]) [] c
theorem nx (b:ac) (a:J):(hp b a).length=a:=by
 induction a with
 | zero=>rfl
 | succ a c=>show (hp b a++[_]).length=_;rw[dm,c];rfl
theorem tP (c:ac) (a b:J) (h:b<a):O (hp c a) b=ly (O c b):=by
 induction a with
 | zero=>omega
 | succ a g =>
  show O (hp c a++[ly (O c a)]) b=_
  by_cases e:b<a
  ·rw[nb _ _ _ (by rw[nx];exact e)];exact g e
  ·have f:b=a:=E;subst f;have d:=nx c b;exact pA
theorem Iu (e:F) (b:ac):b7 e (hp b b.length)=b7 e b:=by
 unfold b7;rw[nx];congr 1;rw[Bool.eq_iff_iff,cp,cp];constructor
 ·intro c d a;have:=bM.1 (c d a);rw[tP _ _ _ a] at this;unfold ly at this;exact bM.2 E
 ·intro c d a;have:=bM.1 (c d a);show bi _ _ _=ae;rw[tP _ _ _ a];unfold ly;exact bM.2 E
theorem Kz {f:F} {a:ac} (c:b7 f a=ae):hp a a.length=ca a a.length:=by
 obtain⟨_,d⟩:=nr c;refine kI _ _ (by rw[nx,i2]) λ e b=>?_
 rw[nx] at b;rw[tP _ _ _ b,qT _ _ _ b];have:=d e b;unfold ly;omega
theorem Hn (c:F) (b a:ac):fB c b a=if (em c b (hp a a.length)).ok then ⟨-(em c b (hp a a.length)).num,(em c b (hp a a.length)).den,ae⟩ else bb.no:=by
 unfold fB em;rw[Iu];cases d:(ci c b&&b7 c a)
 ·simp[bb.no]
 ·rw[b9] at d;simp only[if_true];rw[Kz d.2,Mn];cases e:(bv (bS 1000 b (ca a a.length) b.length) (aW b)).ok
  ·unfold bv at *;split at e
   ·cases e
   ·rename_i f;rw[aF f];simp[bb.no]
  ·simp
theorem D4 (a b:F) (d:af) (e:bH a b=ae):
  aC 208 #[ba #[M a,M b]] d (bz (-a) b ae):=by
 obtain⟨k,l,m,n⟩:=MK e;have q:IntKind.i64.wrap (-a)= -a:=bV _ E;go_enter func208,ntmps208;go_wp2_with fail;refine(oz a b _).mono ?_;rw[e];rintro o j ⟨rfl,c⟩;have r:=aS c d.heap.size 0 (M a);have s:=aS c d.heap.size 1 (M b);obtain⟨t,i,f,g⟩:=cj (d.heap.size+1) c ar;have p:ap d j:=bJ c;clear c;go_wp2;refine aK (v:=bz (-a) b ae) (by simp[aJ,results208,go_sem,t,i,f,g]) I ⟨?_,?_⟩
 ·rfl
 ·exact aD
theorem D8 (Zw:F) (n T:aG) (t v G Z2:J) (m c:ac) (a:af) (ZS:an a n t m) (D:an a T G c) (ZU:G<=100):
  aC 107 #[am Zw n t v,aa T G Z2] a (aL #[ba #[M (fB Zw m c).num,M (fB Zw m c).den],aw (fB Zw m c).ok]):=by
 have Z3:=ab (Hn Zw m c);rw[Z3.o];obtain rfl:G=c.length:=D.len.symm;obtain⟨k,ZZ⟩:∃k,c.length=k:=⟨_,I⟩;rw[ZZ] at D ZU ⊢;have ZI:=D.cap;obtain⟨f,P⟩:∃f,U (em Zw m (hp c k)=f):=⟨_,I⟩;rw[P.o];obtain⟨V,L⟩:∃V:bb,U ((if f.ok then (⟨-f.num,f.den,ae⟩:bb) else bb.no)=V):=⟨_,I⟩;rw[L.o];obtain⟨b,e⟩:∃b,(a.alloc (al #[M Zw,aa n t v] 29)).alloc (al #[M 0,M 0] 55)=b:=⟨_,I⟩;have Z1:ap a b:=by rw[<- e];exact aD
 have Z9: b.cell? (ad a.heap.size 0)=Z (M Zw):=by rw[<- e];simp
 have Z8: b.cell? (ad a.heap.size 1)=Z (aa n t v):=by rw[<- e];simp
 have i: b.cell? (ad (a.heap.size+1) 0)=Z (M 0):=by rw[<- e];simp
 have j: b.cell? (ad (a.heap.size+1) 1)=Z (M 0):=by rw[<- e];simp
 have o: b.frozen? (ad (a.heap.size+1) 0)=ak:=by rw[<- e];simp
 have p: b.frozen? (ad (a.heap.size+1) 1)=ak:=by rw[<- e];simp
 have u:b.heap.size=a.heap.size+1+1:=by rw[<- e];simp
 have ZW:av ((((a.alloc (al #[M Zw,aa n t v] 29)).alloc (al #[M 0,M 0] 55))).alloc (al #[] 3)) (a.heap.size+1+1) (aq (a.heap.size+1+1) 0 0) (hp c 0):=by
  exact sg
 have Z0:Below (a.heap.size+1+1) b ((((a.alloc (al #[M Zw,aa n t v] 29)).alloc (al #[M 0,M 0] 55))).alloc (al #[] 3)):=by rw[e,<- u];exact az _ _
 clear e;go_enter func107,ntmps107;go_wp2;go_loopw [6,7] (λ Y Q wr=>∃(d:J) (R:ay),d<=k /\ Q=M d /\ Y=R /\ av wr (a.heap.size+1+1) R (hp c d) /\ Below (a.heap.size+1+1) b wr) (λ Y Q _=>k-(intOf Q).toNat)
 case atStart=>exact⟨0,_,E,I,I,ZW,Z0⟩
 case round =>
  obtain⟨d,R,ZG,rfl,rfl,y,g⟩:=hrel;have K:ap a wr:=Z1.trans (g.mono E);have ZC:=g.size;by_cases ZV:d<k
  ·obtain⟨S,ZA,rfl,ZJ,ZO,ZH⟩:=D.at K ZV;have Z5:=ab (nx c d);obtain⟨z,N⟩:∃z,U (ly (O c d)=z):=⟨_,I⟩;have ZF: -2000<=min (max (O c d) (-2000)) 2000 /\ min (max (O c d) (-2000)) 2000<=2000:=E;have ZE:IntKind.i64.wrap (-(min (max (O c d) (-2000)) 2000))=z:=by rw[<- N.o];exact bV _ E
   have Z4:U (hp c (d+1)=hp c d++[z]):=by show hp c (d+1)=_;rw[<- N.o];rfl
   go_wp2_with (at_builtin;refine iz I _ _ I (a.heap.size+1+1) _ _ d Z5.o a6 (y.below (bA.alloc aZ _)) _ _ z a6 (by simp;first | done | (have ZY:=N.o;unfold ly at ZY;omega)) E (by simp;omega) ?_;intro ZP ZQ ZN Z6 X);all_goals
    have Z7:=ab (cV (B:=a.heap.size+1+1) (g.alloc E _) (by simp;omega) X (λ S H=>(y.block S H).1));clear X y g;go_roundw
    case rel=>exact⟨d+1,_,E,by go_num,I,by rw[Z4.o];exact Z6,Z7.o⟩
    case measure=>simp[intOf];omega
  ·obtain rfl:d=k:=E;obtain⟨ZM,ZB,ZL,rfl,ZX⟩:=y.ints;have Zz:=dL g E Z9;have Zy:=dL g E Z8;have w:=dL g E i;have x:=dL g E j;have A: wr.frozen? (ad (a.heap.size+1) 0)=ak:=(World.frozen?_of_block (a:=(ad (a.heap.size+1) 0)) (g.block (a.heap.size+1) E)).trans o;have B: wr.frozen? (ad (a.heap.size+1) 1)=ak:=(World.frozen?_of_block (a:=(ad (a.heap.size+1) 1)) (g.block (a.heap.size+1) E)).trans p;clear y i j o p Z9 Z8 g;go_wp2_with fail;refine(zA Zw _ _ _ _ _ _ m (hp c d) _ (ZS.below K) ZX).mono ?_;rw[P.o];rintro H ZR ⟨rfl,q⟩;have i:=ag q w;have j:=ag q x;have o:=aB q w A;have p:=aB q x B;have W:=au K q;clear q w x A B;have ZD:=W.size;cases s:f.ok
   ·go_wp2;refine aK (v:=bz 0 0 ak) (by simp[aJ,results107,go_sem,i,j,o,p]) I ⟨?_,?_⟩
    ·rw[<- L.o,s];rfl
    ·exact aD
   ·have ZT:bH f.num f.den=ae:=by
     have C:=P.o;unfold em at C;split at C
     ·rw[<- C] at s ⊢;exact Jy s
     ·rw[<- C] at s;cases s
    go_wp2_with fail
    refine(D4 f.num f.den _ ZT).mono ?_;rintro H Zx ⟨rfl,r⟩
    have l:=az ZR (al #[M f.num,M f.den] 55)
    have w:=ag r (ag l i)
    have x:=ag r (ag l j)
    have A:=aB r (ag l i) (aB l i o)
    have B:=aB r (ag l j) (aB l j p)
    clear l
    have ZK:=Below.trans (W.alloc E _) (r.mono bO)
    clear r i j o p
    go_wp2
    refine aK (v:=bz (-f.num) f.den ae) (by simp[aJ,results107,go_sem,w,x,A,B]) I ⟨?_,?_⟩
    ·rw[<- L.o,s];rfl
    ·exact aD
theorem tL (i:F) (j c s:J) (d:ac) (a:af) (r:an a (Z (ad j 0)) c d) (Z0:1<=c) (W:c<=16) (v:∀ZU,ZU<c->0<=O d ZU /\ O d ZU<=4000000000000000000):
  bp 293 #[M i,aq j c s] a (bh i (d.set 0 0)):=by
 obtain⟨b,e⟩:∃b,a.alloc (al #[M 0,aa aj 0 0] 29)=b:=⟨_,I⟩;have u:b.heap.size=a.heap.size+1:=by rw[<- e];simp
 have w:av ((a.alloc (al #[M 0,aa aj 0 0] 29)).alloc (al #[] 3)) (a.heap.size+1) (aq (a.heap.size+1) 0 0) []:=by
  exact sg
 have z:an ((a.alloc (al #[M 0,aa aj 0 0] 29)).alloc (al #[] 3)) (Z (ad j 0)) c d:=r.below aD;have A:dy ((a.alloc (al #[M 0,aa aj 0 0] 29)).alloc (al #[] 3)) a.heap.size (M 0) (aa aj 0 0):=(dy.mk2 I).below (az _ _);have Z1:=r.len;have G:=ab v;clear v e u b r;go_enter func293,ntmps293;go_wp2_with (at_builtin;refine EH I _ _ I (a.heap.size+1) (aq (a.heap.size+1) 0 0) [] 0 I a6 w j c s d a6 z E E ar ?_;intro S Z5 ZX g q;simp only[Nat.zero_add,List.nil_append] at g;have B:=A.grown (g:=a.heap.size+1) q E;have o:=cV (B:=a.heap.size) (show Below a.heap.size a ((a.alloc (al #[M 0,aa aj 0 0] 29)).alloc (al #[] 3)) from aD) (by simp;omega) q (λ Z6 t=>by have:=dD t;omega);obtain⟨K,N,_⟩:=g.cellAt (show 0<c from E);clear q A w z);obtain⟨ZW,y,X,p⟩:=dC g (show 0<c from E) 0;rw[y];have Z3:=g.block S I;have T:=iD o o.size p E;have C:=B.grown p E;have ZZ:=C.lt;obtain⟨k,l,m,n,_⟩:=C;clear y p g K N B o;obtain⟨Z9,Z7,Z8,D,U⟩:=X.ints;injection D with P Q R
 subst P Q R;go_wp2_with fail;refine(hk i _ _ _ (d.set 0 0) _ U W (λ ZU V=>by have:=G.o ZU V;rw[cO];split<;>omega)).mono ?_;rintro t ZV ⟨⟨ZY,rfl,x⟩,f⟩;obtain⟨H,Y,L,rfl,Z2⟩:=x.ints;replace m:=aB f k m;replace n:=aB f l n;replace k:=ag f k;replace l:=ag f l;have Z4:=au T f;clear f;go_wp2;refine aK (v:=aL #[ba #[M (bh i (d.set 0 0)).size,aa H Y L],aw (bh i (d.set 0 0)).ok]) (by simp[aJ,results293,go_sem,k,l,m,n]) I ⟨?_,?_⟩
 ·exact⟨_,I,(((x.mono (base':=a.heap.size+1) E).setBelow ar _).setBelow ar _).mono E⟩
 ·exact aD
theorem EI (d:F) (R g k:J) (a:ac) (b:af) (n:an b (Z (ad R 0)) g a) (r:aI d a=ae):
  bp 198 #[ba #[M d,aq R g k]] b (bh d (a.set 0 0)):=by
 obtain⟨y,G,A,p,_⟩:=bt r;have C:=b8 y;have H:=n.len;have u:U (∀c,c<g->0<=O a c /\ O a c<=1000000):= λ c q=>p c E
 clear p;go_enter func198,ntmps198;go_wp2_with fail;refine(dA _ _ _ _ a _ (n.below aD)).mono ?_;rw[r];rintro x t ⟨rfl,e⟩;obtain⟨i,j,l,m⟩:=cj (b.heap.size+1) e ar;have L:=aS e b.heap.size 0 (M d);have N:=aS e b.heap.size 1 (aq R g k);have K:b.heap.size+1<t.heap.size:=by have:=e.size;simp at this;omega
 have o:ap b t:=dz e;clear e;go_wp2_with fail;refine(tL d R g k a _ (n.below o) E E (λ c q=>by have:=u.o c q;omega)).mono ?_;rintro x Q ⟨⟨P,rfl,s⟩,f⟩;obtain⟨v,z,w,rfl,D⟩:=s.ints;replace l:=aB f i l;replace m:=aB f j m;replace i:=ag f i;replace j:=ag f j;have B:=au o f;clear f;go_wp2;refine aK (v:=aL #[ba #[M (bh d (a.set 0 0)).size,aa v z w],aw (bh d (a.set 0 0)).ok]) (by simp[aJ,results198,go_sem,i,j,l,m]) I ⟨?_,?_⟩
 ·exact⟨_,I,(((s.mono (base':=b.heap.size+1+1) E).setBelow ar _).setBelow ar _).mono E⟩
 ·exact aD
def bu (a:J->F):J->F
 | 0=>0
 | b+1=>bu a b+a b
theorem jo {c g:J->F} {a:J} (d:∀b,b<a->c b=g b):bu c a=bu g a:=by
 induction a with
 | zero=>rfl
 | succ a e=>show bu c a+c a=bu g a+g a;rw[e λ b f=>d b E,d a E]
theorem ks {b:J->F} {a:J} (d:∀c,c<a->b c=0):bu b a=0:=by
 induction a with
 | zero=>rfl
 | succ a e=>show bu b a+b a=0;rw[e λ c f=>d c E,d a E];rfl
theorem o2 (b c:J->F) (a:J):bu (λ d=>b d+c d) a=bu b a+bu c a:=by
 induction a with
 | zero=>rfl
 | succ a e=>show bu _ a+(b a+c a)=(bu b a+b a)+(bu c a+c a);rw[e];omega
theorem CF (c:F) (b:J->F) (a:J):bu (λ e=>c*b e) a=c*bu b a:=by
 induction a with
 | zero=>simp[bu]
 | succ a d=>show bu _ a+c*b a=c*(bu b a+b a);rw[d,Int.mul_add]
theorem mr {f:J->F} {n:J} (b:∀a,a<n->0<=f a):0<=bu f n:=by
 induction n with
 | zero=>exact fE _
 | succ n c=>have d:=c λ a g=>b a E;have e:=b n E;show 0<=bu f n+f n;omega
theorem Ce {c d:J->F} {n:J} (e:∀b,b<n->c b<=d b):bu c n<=bu d n:=by
 induction n with
 | zero=>exact fE _
 | succ n f=>have g:=f λ b i=>e b E;have h:=e n E;show bu c n+c n<=bu d n+d n;omega
theorem G {c d:J->F} {a j:J} (e:∀b,b<a->c b<=d b) (l:j<a) (m:c j<d j):bu c a<bu d a:=by
 induction a with
 | zero=>omega
 | succ a i =>
  show bu c a+c a<bu d a+d a
  by_cases h:j=a
  ·subst h;have f:=Ce (n:=j) λ b g=>e b E;omega
  ·have f:=i (λ b g=>e b E) E;have k:=e a E;omega
theorem ud (c:J->J->F) (a e:J):bu (λ d=>bu (λ b=>c d b) e) a=bu (λ b=>bu (λ d=>c d b) a) e:=by
 induction a with
 | zero=>symm;exact ks λ g _=>rfl
 | succ a f=>show bu _ a+bu (λ b=>c a b) e=_;rw[f,<- o2];rfl
theorem ML {a c:J} (b:F) (g:c<a):bu (λ e=>if e=c then b else 0) a=b:=by
 induction a with
 | zero=>omega
 | succ a f =>
  show bu _ a+(if a=c then b else 0)=b
  by_cases d:a=c
  ·subst d;rw[ks λ e h=>aF E,a7 rfl];omega
  ·rw[f E,aF d];omega
theorem qZ {f g:J->F} {n b:J} (h:b<n) (e:∀a,a<n->a≠b->g a=f a):bu g n=bu f n+(g b-f b):=by
 have d:bu g n=bu (λ a=>f a+(if a=b then g b-f b else 0)) n:=jo λ a i=>by
  by_cases c:a=b
  ·subst c;rw[a7 rfl];omega
  ·rw[aF c,e a i c];omega
 rw[d,o2,ML _ h]
theorem oH {f:J->F} {c b:J} (g:∀a,a<c->0<=f a) (h:b<c):f b<=bu f c:=by
 have e:=qZ (f:= λ a=>if a=b then 0 else f a) (g:=f) (n:=c) h (λ a _ d=>(aF d).symm);have j:0<=bu (λ a=>if a=b then 0 else f a) c:=mr λ a i=>by
  by_cases d:a=b
  ·rw[a7 d];omega
  ·rw[aF d];exact g a i
 simp only[a7 rfl] at e;simp at e;omega
structure dV (sub:J->J->a8) (N:J) (L D:J->F) (fl:J->J->F) (lf du:J->F):Prop where
 nn:∀b a,b<N->a<N->0<=fl b a
 sup:∀b a,b<N->a<N->fl b a≠0->sub a b=ae
 row:∀b,b<N->bu (fl b) N+lf b=L b
 col:∀a,a<N->bu (λ b=>fl b a) N+du a=D a
 lf0:∀b,b<N->0<=lf b
 du0:∀a,a<N->0<=du a
def jb (h:J->J->a8) (c:J) (g f:J->F):Prop :=
 ∀d e:J->a8,(∀b a,b<c->a<c->d b=ae->h a b=ae->e a=ae)->bu (λ b=>if d b then g b else 0) c<=bu (λ a=>if e a then f a else 0) c
theorem Am {n:J->J->a8} {c:J} {j l:J->F} {i:J->J->F} {m p:J->F} (g:dV n c j l i m p) (s:∀a,a<c->m a=0):jb n c j l:=by
 intro f o r;have q:bu (λ a=>if f a then j a else 0) c=bu (λ a=>bu (λ b=>if f a then i a b else 0) c) c:=jo λ a e=>by
  by_cases d:f a=ae
  ·simp only[d,if_true];rw[<- g.row a e,s a e,Int.add_zero]
  ·simp only[Bool.not_eq_true] at d;simp[d];exact(ks λ x _=>rfl).symm
 rw[q,ud];refine Ce λ b h=>?_
 by_cases k:o b=ae
 ·simp only[k,if_true];have u:bu (λ a=>if f a then i a b else 0) c<=bu (λ a=>i a b) c:=Ce λ a e=>by
   split
   ·exact fE _
   ·exact g.nn a b e h
  have v:=g.col b h;have w:=g.du0 b h;omega
 ·rw[aF k];refine Int.le_of_eq (ks λ a e=>?_);by_cases d:f a=ae
  ·rw[a7 d];refine jJ λ t=>k (r a b e h d (g.sup a b e h t))
  ·rw[aF d]
theorem bw {p:J->J->a8} {c:J} {o n:J->F} {f:J->J->F} {u q:J->F} (i:dV p c o n f u q) (e h:J->a8) (r:∀b a,b<c->a<c->e b=ae->p a b=ae->h a=ae)
  (m:∀b a,b<c->a<c->h a=ae->0<f b a->e b=ae) (z:∀a,a<c->h a=ae->q a=0) {g:J} (t:g<c) (A:e g=ae) (D:0<u g):¬jb p c o n:=by
 intro y;have C:=y e h r;have w:bu (λ b=>bu (λ a=>if e b then f b a else 0) c) c<bu (λ b=>if e b then o b else 0) c:=by
  refine G (j:=g) (λ b m=>?_) t ?_
  ·by_cases d:e b=ae
   ·simp only[d,if_true];have:=i.row b m;have:=i.lf0 b m;have v:bu (λ a=>f b a) c=bu (f b) c:=rfl;omega
   ·simp only[Bool.not_eq_true] at d;simp[d];exact Int.le_of_eq (ks λ H _=>rfl)
  ·simp only[A,if_true];have:=i.row g t;have v:bu (λ a=>f g a) c=bu (f g) c:=rfl;omega
 have x:bu (λ a=>bu (λ b=>if e b then f b a else 0) c) c=bu (λ a=>if h a then n a else 0) c:=jo λ a j=>by
  by_cases k:h a=ae
  ·rw[a7 k,<- i.col a j,z a j k,Int.add_zero];refine jo λ b l=>?_
   by_cases d:e b=ae
   ·rw[a7 d]
   ·rw[aF d];have B:=i.nn b a l j;refine jJ λ s=>d (m b a l j k E)
  ·rw[aF k];refine ks λ b l=>?_
   by_cases d:e b=ae
   ·rw[a7 d];refine jJ λ s=>k (r b a l j d (i.sup b a l j s))
   ·rw[aF d]
 rw[ud,x] at w;omega
theorem KA {n:J->J->a8} {a:J} {i h:J->F} {e:J->J->F} {k d:J->F} (f:dV n a i h e k d) (t:bu i a=bu h a) (m:∀b,b<a->k b=0):∀c,c<a->d c=0:=by
 have o:bu i a=bu (λ b=>bu (e b) a) a:=jo λ b j=>by rw[<- f.row b j,m b j,Int.add_zero]
 have p:bu h a=bu (λ c=>bu (λ b=>e b c) a) a+bu d a:=by rw[<- o2];exact jo λ c g=>(f.col c g).symm
 have l:=ud e a a;intro c g;have r:=oH (f:=d) f.du0 g;have s:=f.du0 c g;have q:bu (λ b=>bu (e b) a) a=bu (λ c=>bu (λ b=>e b c) a) a:=l;omega
def gd (h:J->J->a8) (d g:J) (f:J->J->F) (b c:J->F) (e:J->J):Prop :=
 ∀a,a<d->0<=b a->(b a).toNat <d /\ b a<d /\ h a (b a).toNat=ae /\
  ((b a).toNat≠g->0<=c (b a).toNat /\ c (b a).toNat <d /\ 0<=b (c (b a).toNat).toNat /\ 0<f (b a).toNat (c (b a).toNat).toNat /\ e (c (b a).toNat).toNat <e a)
inductive eZ (from_:J) (fl:J->J->F) (gv gt:J->F) (q:F):J->Prop
 | stop (a:J):(gv a).toNat=from_->eZ from_ fl gv gt q a
 | step (a:J):(gv a).toNat≠from_->q<=fl (gv a).toNat (gt (gv a).toNat).toNat->eZ from_ fl gv gt q (gt (gv a).toNat).toNat->eZ from_ fl gv gt q a
theorem eZ.mono {e:J} {d:J->J->F} {g f:J->F} {h c:F} {a:J} (i:eZ e d g f h a) (l:c<=h):eZ e d g f c a:=by
 induction i with
 | stop a b=>exact .stop a b
 | step a b k _ j=>exact .step a b E j
theorem eZ.upd {w:J->J->a8} {g f:J} {j q i:J->J->F} {c d:J->F} {h:J->J} {n:F} (t:gd w g f q c d h) {a:J} (r:eZ f j c d n a):
  a<g->0<=c a->(∀b,b<g->0<=c b->h b<=h a->(c b).toNat≠f->j (c b).toNat (d (c b).toNat).toNat<=i (c b).toNat (d (c b).toNat).toNat)->eZ f i c d n a:=by
 induction r with
 | stop a e=>exact λ _ _ _=>.stop a e
 | step a e x _ u =>
  intro l k m
  obtain⟨_,_,_,s⟩:=t a l k
  obtain⟨z,A,v,_,B⟩:=s e
  refine .step a e ?_ (u E v λ b p o y=>m b p o E)
  have:=m a l k aZ e;omega
theorem gd.init (k:J->J->a8) (b e:J) (d:J->J->F) (f:J->F) (j:J->J) {c:J->F} (g:∀a,a<b->c a= -1):gd k b e d c f j:= λ a i h=>by
 rw[g a i] at h;omega
theorem gd.getter {s:J->J->a8} {e n:J} {m:J->J->F} {f c:J->F} {r:J->J} (A:gd s e n m f c r) {j:J->F} {d b:J} (L:d<e) (w:b<e) (K:f d<0) (z:s d b=ae)
  (x:b≠n->0<=c b /\ c b<e /\ 0<=f (c b).toNat /\ 0<m b (c b).toNat) (v:j d=b) (l:∀a,a≠d->j a=f a):
  gd s e n m j c (λ a=>if a=d then r (c b).toNat +1 else r a):=by
 intro a y t;by_cases o:a=d
 ·subst o;rw[v];refine⟨by simpa using w,E,by simpa using z,λ h=>?_⟩;simp only[cI] at h ⊢;obtain⟨B,p,i,q⟩:=x h;have g:(c b).toNat≠a:=by intro k;rw[k] at i;omega
  refine⟨B,p,by rw[l _ g];exact i,q,?_⟩;rw[aF g];simp
 ·rw[l a o] at t ⊢;obtain⟨p,i,q,C⟩:=A a y t;refine⟨p,i,q,λ h=>?_⟩;obtain⟨D,G,u,H,I⟩:=C h;have g:(c (f a).toNat).toNat≠d:=by intro k;rw[k] at u;omega
  refine⟨D,G,by rw[l _ g];exact u,H,?_⟩;simp only[aF g,aF o];exact I
theorem gd.giver {l:J->J->a8} {f h:J} {g:J->J->F} {d c:J->F} {k:J->J} (r:gd l f h g d c k) {e:J->F} {b:J} (v:c b<0) (n:∀a,a≠b->e a=c a):gd l f h g d e k:=by
 intro a o p;obtain⟨s,t,u,j⟩:=r a o p;refine⟨s,t,u,λ i=>?_⟩;have q:(d a).toNat≠b:=by intro m;have:=(j i).1;rw[m] at this;omega
 rw[n _ q];exact j i
def hU (e:J->J->F) (d c:J) (f:F):J->J->F:= λ b a=>if b=d /\ a=c then f else e b a
theorem kA (d:J->J->F) (b a:J) (c:F):hU d b a c b a=c:=a7 ⟨I,I⟩
theorem gp {g:J->J->F} {e d c b:J} (h:F) (a:c≠e \/ b≠d):hU g e d h c b=g c b:=aF λ f=>a.elim (λ a=>a f.1) (λ a=>a f.2)
theorem uz {b:J->J->F} {f e d:J} (c:F) (h:d<f) (a:J):bu (hU b e d c a) f=bu (b a) f+(if a=e then c-b e d else 0):=by
 by_cases g:a=e
 ·subst g;rw[qZ (f:=b a) (g:=hU b a d c a) h λ j _ i=>gp c (Or.inr i),a7 rfl,kA]
 ·rw[aF g,Int.add_zero];exact jo λ j _=>gp c (Or.inl g)
theorem uA {c:J->J->F} {g f e:J} (d:F) (i:f<g) (a:J):bu (λ b=>hU c f e d b a) g=bu (λ b=>c b a) g+(if a=e then d-c f e else 0):=by
 by_cases h:a=e
 ·subst h;rw[qZ (f:= λ b=>c b a) (g:= λ b=>hU c f a d b a) i λ k _ j=>gp d (Or.inl j),a7 I,kA]
 ·rw[aF h,Int.add_zero];exact jo λ k _=>gp d (Or.inr h)
structure jd (sub:J->J->a8) (N from_ end_:J) (fl:J->J->F) (gv gt:J->F) (q:F) (cur:J) (f:J->J->F):Prop where
 nn:∀b a,b<N->a<N->0<=f b a
 sup:∀b a,b<N->a<N->f b a≠0->sub a b=ae
 row:∀b,b<N->bu (f b) N=bu (fl b) N
 col:∀a,a<N->bu (λ b=>f b a) N=bu (λ b=>fl b a) N+(if a=end_ then q else 0)-(if a=cur then q else 0)
 ge:eZ from_ f gv gt q cur
 cur0:cur<N /\ 0<=gv cur
theorem jd.init {i:J->J->a8} {c e a:J} {k j:J->F} {b:J->J->F} {p l:J->F} {d f:J->F} {h:F} (g:dV i c k j b p l) (o:eZ e b d f h a) (n:a<c) (m:0<=d a):jd i c e a b d f h a b :=
 ⟨g.nn,g.sup,λ _ _=>rfl,λ q _=>by split<;>omega,o,n,m⟩
theorem jd.step {L:J->J->a8} {n r N:J} {C:J->J->F} {o s:J->F} {K:J->J} {j:F} {f:J} {i:J->J->F} (l:jd L n r N C o s j f i) (G:gd L n r C o s K) (Z9:0<=j) {b a:J} (A:o f=(b:F)) (R:b≠r) (B:s b=(a:F)):
  b<n /\ a<n /\ a≠f /\ j<=i b a /\ K a<K f /\ jd L n r N C o s j a (hU (hU i b f (i b f+j)) b a (i b a-j)):=by
 obtain⟨D,V⟩:=l.cur0;obtain⟨p,W,H,Z7⟩:=G f D V;rw[A] at p W H Z7;simp only[cI] at p H Z7;obtain⟨X,Y,y,S,z⟩:=Z7 R;rw[B] at X Y y S z;simp only[cI] at y S z;have w:a<n:=E;have P:a≠f:=by intro c;rw[c] at z;omega
 have Q:j<=i b a /\ eZ r i o s j a:=by
  cases l.ge with
  | stop _ v=>rw[A] at v;simp at v;exact bC v R
  | step _ v t u=>rw[A] at t u;simp only[cI] at t u;rw[B] at t u;simp only[cI] at t u;exact⟨t,u⟩
 have M:hU i b f (i b f+j) b a=i b a:=gp _ (Or.inr P);refine⟨p,w,P,Q.1,z,⟨?_,?_,?_,?_,?_,w,y⟩⟩
 ·intro e d m k;by_cases g:e=b /\ d=a
  ·rw[g.1,g.2,kA];omega
  ·rw[gp _ (by by_cases c:e=b;exact Or.inr λ h=>g ⟨c,h⟩;exact Or.inl c)];by_cases h:e=b /\ d=f
   ·rw[h.1,h.2,kA];have:=l.nn b f p D;omega
   ·rw[gp _ (by by_cases c:e=b;exact Or.inr λ q=>h ⟨c,q⟩;exact Or.inl c)];exact l.nn e d m k
 ·intro e d m k x;by_cases h:e=b /\ d=f
  ·rw[h.1,h.2];exact H
  ·by_cases g:e=b /\ d=a
   ·refine l.sup e d m k ?_;rw[g.1,g.2] at x ⊢;rw[kA] at x;intro c;omega
   ·rw[gp _ (by by_cases c:e=b;exact Or.inr λ q=>g ⟨c,q⟩;exact Or.inl c),gp _ (by by_cases c:e=b;exact Or.inr λ q=>h ⟨c,q⟩;exact Or.inl c)] at x;exact l.sup e d m k x
 ·intro e m;rw[uz _ w,uz _ D,M,l.row e m];split<;>omega
 ·intro d k;rw[uA _ p,uA _ p,M,l.col d k];by_cases g:d=f
  ·have h:¬d=a:=E;rw[a7 g,a7 g,aF h,aF h];omega
  ·rw[aF g,aF g];split<;>split<;>omega
 ·refine eZ.upd G Q.2 w y λ d k T Z8 U=>?_
  obtain⟨_,_,_,Z6⟩:=G d k T;have O:(o d).toNat≠b:=by
   intro c;have:=(Z6 U).2.2.2.2;rw[c,B] at this;simp only[cI] at this;omega
  rw[gp _ (Or.inl O),gp _ (Or.inl O)];exact fE _
theorem jd.last {r:J->J->a8} {j b t:J} {v:J->J->F} {w G:J->F} {N:J->J} {h:F} {f:J} {u:J->J->F} {C B:J->F} {q o:J->F} (i:jd r j b t v w G h f u) (p:dV r j C B v q o) (L:gd r j b v w G N) (O:0<=h) (I:w f=(b:F)) (Q:h<=q b) (P:h<=o t)
  {lf' du':J->F} (E:∀n,lf' n=if n=b then q n-h else q n) (D:∀m,du' m=if m=t then o m-h else o m):
  b<j /\ dV r j C B (hU u b f (u b f+h)) lf' du':=by
 obtain⟨x,K⟩:=i.cur0;obtain⟨l,M,y,R⟩:=L f x K;rw[I] at l M y;simp only[cI] at l y;refine⟨l,?_,?_,?_,?_,?_,?_⟩
 ·intro a c e d;by_cases g:a=b /\ c=f
  ·rw[g.1,g.2,kA];have:=i.nn b f l x;omega
  ·rw[gp _ (by by_cases k:a=b;exact Or.inr λ s=>g ⟨k,s⟩;exact Or.inl k)];exact i.nn a c e d
 ·intro a c e d H;by_cases g:a=b /\ c=f
  ·rw[g.1,g.2];exact y
  ·rw[gp _ (by by_cases k:a=b;exact Or.inr λ s=>g ⟨k,s⟩;exact Or.inl k)] at H;exact i.sup a c e d H
 ·intro a e;rw[uz _ x,i.row a e,E,<- p.row a e];split
  ·subst a;omega
  ·omega
 ·intro c d;rw[uA _ l,i.col c d,D,<- p.col c d];split<;>split<;>omega
 ·intro a e;rw[E];split
  ·subst a;omega
  ·exact p.lf0 a e
 ·intro c d;rw[D];split
  ·subst c;omega
  ·exact p.du0 c d
def bY (a b:J):a8:=decide (a&&&b=a)
def ps (b:J->a8) (a:J):F:=if b a then 1 else 0
theorem CG (b:J->F) (d:ac) (a:J):a9 b d a=bu (λ c=>b c*O d c) a:=by
 induction a with
 | zero=>rfl
 | succ f e=>rw[gV,e];rfl
theorem ra (c:J->a8) (e:ac) (d:F) (a:J):bu (λ b=>if c b then O e b*d else 0) a=d*a9 (ps c) e a:=by
 rw[CG,<- CF];refine jo λ f _=>?_
 unfold ps;split
 ·rw[Int.one_mul,Int.mul_comm]
 ·simp
def kR (f:J->J->a8) (a:J) (i j:ac) (g h:F):Prop :=
 ∀d e:J->a8,(∀c b,c<a->b<a->d c=ae->f b c=ae->e b=ae)->g*a9 (ps d) j a<=h*a9 (ps e) i a
theorem CH (f:J->J->a8) (e:J) (i j:ac) (g h:F):jb f e (λ l=>O j l*g) (λ k=>O i k*h)↔kR f e i j g h:=by
 unfold jb kR;constructor
 ·intro c a b d;have:=c a b d;rw[ra,ra] at this;exact this
 ·intro c a b d;have:=c a b d;rw[ra,ra];exact this
structure dO (N from_:J) (fl:J->J->F) (du:J->F) (gv gt qs:ac) (rk:J->J) (X Y:J->J->Prop):Prop where
 lg:gv.length=N
 lt:gt.length=N
 way:gd bY N from_ fl (O gv) (O gt) rk
 gm:∀a,a<N-> -1<=O gv a
 tm:∀b,b<N-> -1<=O gt b
 tb:∀b,b<N->0<=O gt b->O gt b<N /\ 0<=O gv (O gt b).toNat /\ 0<fl b (O gt b).toNat
 q:∀x,x∈qs->∃b:J,b<N /\ x=(b:F) /\ (b=from_ \/ 0<=O gt b)
 cl:∀b,b<N->(b=from_ \/ 0<=O gt b)->(b:F)∈qs \/ ∀a,a<N->bY a b=ae->¬X b a->0<=O gv a
 du:∀a,a<N->0<=O gv a->du a<=0
 bk:∀a,a<N->0<=O gv a->∀b,b<N->0<fl b a->¬Y b a->(b=from_ \/ 0<=O gt b)
def fG:J->J->Prop:= λ _ _=>False
def kh (c d:J):J->J->Prop:= λ b a=>b=c /\ d<=a
def lQ (b d:J):J->J->Prop:= λ c a=>a=b /\ d<=c
theorem dO.start {d g:J} (o:J->J->F) (n:J->F) {k j:ac} (p:k.length=d) (q:j.length=d) (f:∀e,e<d->O k e= -1) (i:∀e,e<d->O j e= -1) (r:g<d):
  dO d g o n k j [(g:F)] (λ _=>0) fG fG :=
 ⟨p,q,gd.init _ _ _ _ _ _ f,λ b c=>by rw[f b c];omega,λ b c=>by rw[i b c];omega,λ h l a=>by rw[i h l] at a;omega,λ s m=>by simp at m;exact⟨g,r,m,Or.inl I⟩,
  λ h l a=>by
   rcases a with a | a
   ·subst a;exact Or.inl ar
   ·rw[i h l] at a;omega,λ b c a=>by rw[f b c] at a;omega,λ b c a=>by rw[f b c] at a;omega⟩
theorem dO.pop {c d:J} {l:J->J->F} {j:J->F} {m e o:ac} {p:J->J} {g:F} (a:dO c d l j m e (g::o) p fG fG):
  ∃b:J,b<c /\ g=(b:F) /\ (b=d \/ 0<=O e b) /\ dO c d l j m e o p (kh b 0) fG:=by
 obtain⟨b,q,rfl,r⟩:=a.q g ar;refine⟨b,q,I,r,a.lg,a.lt,a.way,a.gm,a.tm,a.tb,λ y x=>a.q y (kN _ x),λ i u s=>?_,a.du,a.bk⟩;by_cases k:i=b
 ·exact Or.inr λ h _ _ w=>bC ⟨k,Nat.zero_le _⟩ w
 ·rcases a.cl i u s with f | f
  ·rcases List.mem_cons.1 f with n | n
   ·exact bC E k
   ·exact Or.inl n
  ·exact Or.inr λ h t v _=>f h t v id
theorem dO.skip {j n:J} {m:J->J->F} {l:J->F} {f o p:ac} {q:J->J} {c b:J} (a:dO j n m l f o p q (kh c b) fG) (v:bY b c=ae->0<=O f b):dO j n m l f o p q (kh c (b+1)) fG:=by
 refine⟨a.lg,a.lt,a.way,a.gm,a.tm,a.tb,a.q,λ k u s=>?_,a.du,a.bk⟩;rcases a.cl k u s with g | g
 ·exact Or.inl g
 ·refine Or.inr λ e t h w=>?_
  by_cases d:k=c /\ e=b
  ·rw[d.2];rw[d.1,d.2] at h;exact v h
  ·exact g e t h λ i=>w ⟨i.1,by have:=i.2;have:e≠b:= λ r=>d ⟨i.1,r⟩;omega⟩
theorem dO.pass {b e:J} {d:J->J->F} {c:J->F} {g f h:ac} {i:J->J} {l:J} (a:dO b e d c g f h i (kh l b) fG):dO b e d c g f h i fG fG :=
 ⟨a.lg,a.lt,a.way,a.gm,a.tm,a.tb,a.q,λ k p n=>(a.cl k p n).imp id λ m j o q _=>m j o q λ r=>by have:=r.2;omega,a.du,a.bk⟩
theorem dO.led {f h:J} {m:J->J->F} {r:J->F} {d g x:ac} {j:J->J} {a b:J} {p q:J->J->Prop} (i:dO f h m r d g x j p q) (n:a<f) (e:a=h \/ 0<=O g a) (o:b<f) (t:O d b<0) (w:bY b a=ae):
  gd bY f h m (O (d.set b (a:F))) (O g) (λ c=>if c=b then j (O g a).toNat +1 else j c) /\ O (d.set b (a:F)) b=a /\ (∀c,c≠b->O (d.set b (a:F)) c=O d c):=by
 have k:O (d.set b (a:F)) b=a:=by rw[cO,a7 ⟨rfl,by rw[i.lg];exact o⟩]
 have l:∀c,c≠b->O (d.set b (a:F)) c=O d c:= λ c u=>by rw[cO,aF λ s=>u s.1.symm]
 refine⟨i.way.getter o n t w (λ v=>?_) k l,k,l⟩;rcases e with e | e
 ·exact bC e v
 ·obtain⟨y,z,A⟩:=i.tb a n e;exact⟨e,y,z,A⟩
theorem dO.add {h p:J} {s:J->J->F} {n:J->F} {k m v:ac} {r:J->J} {e b:J} (d:dO h p s n k m v r (kh e b) fG) (z:e<h) (x:e=p \/ 0<=O m e) (C:b<h) (w:O k b<0) (D:bY b e=ae) (A:n b<=0):
  dO h p s n (k.set b (e:F)) m v (λ u=>if u=b then r (O m e).toNat +1 else r u) (kh e (b+1)) (lQ b 0):=by
 obtain⟨R,o,j⟩:=d.led z x C w D;have Q:∀a,a<h->0<=O k a->0<=O (k.set b (e:F)) a:= λ a _ f=>by
  by_cases c:a=b
  ·rw[c,o];omega
  ·rw[j a c];exact f
 refine⟨by rw[iu];exact d.lg,d.lt,R,λ a g=>?_,d.tm,λ i l H=>?_,d.q,λ i l y=>?_,λ a g f=>?_,λ a g f i l B L=>?_⟩
 ·by_cases c:a=b
  ·rw[c,o];omega
  ·rw[j a c];exact d.gm a g
 ·obtain⟨M,N,P⟩:=d.tb i l H;exact⟨M,Q _ E N,P⟩
 ·rcases d.cl i l y with q | q
  ·exact Or.inl q
  ·refine Or.inr λ a g G K=>?_
   by_cases c:a=b
   ·rw[c,o];omega
   ·rw[j a c];exact q a g G λ t=>K ⟨t.1,by have:=t.2;omega⟩
 ·by_cases c:a=b
  ·rw[c];exact A
  ·rw[j a c] at f;exact d.du a g f
 ·by_cases c:a=b
  ·exact bC ⟨c,Nat.zero_le _⟩ L
  ·rw[j a c] at f;exact d.bk a g f i l B id
theorem dO.bskip {k g:J} {f:J->J->F} {n:J->F} {o h p:ac} {q:J->J} {l:J->J->Prop} {c b:J} (a:dO k g f n o h p q l (lQ c b)) (v:0<f b c->b=g \/ 0<=O h b):dO k g f n o h p q l (lQ c (b+1)):=by
 refine⟨a.lg,a.lt,a.way,a.gm,a.tm,a.tb,a.q,a.cl,a.du,λ m t s e u i w=>?_⟩;by_cases d:m=c /\ e=b
 ·rw[d.2];rw[d.1,d.2] at i;exact v i
 ·exact a.bk m t s e u i λ j=>w ⟨j.1,by have:=j.2;have:e≠b:= λ r=>d ⟨j.1,r⟩;omega⟩
theorem dO.bpass {b f:J} {e:J->J->F} {d:J->F} {h g i:ac} {j:J->J} {c:J->J->Prop} {l:J} (a:dO b f e d h g i j c (lQ l b)):dO b f e d h g i j c fG :=
 ⟨a.lg,a.lt,a.way,a.gm,a.tm,a.tb,a.q,a.cl,a.du,λ k o n m p q _=>a.bk k o n m p q λ r=>by have:=r.2;omega⟩
theorem dO.badd {k q:J} {m:J->J->F} {p:J->F} {n g v:ac} {w:J->J} {o:J->J->Prop} {e b:J} (d:dO k q m p n g v w o (lQ e b)) (s:b<k) (P:e<k) (H:0<=O n e) (y:O g b<0) (D:0<m b e):
  dO k q m p n (g.set b (e:F)) (v++[(b:F)]) w o (lQ e (b+1)):=by
 have j:O (g.set b (e:F)) b=e:=by rw[cO,a7 ⟨rfl,by rw[d.lt];exact s⟩]
 have i:∀l,l≠b->O (g.set b (e:F)) l=O g l:= λ l Q=>by rw[cO,aF λ c=>Q c.1.symm]
 have M:∀a,0<=O g a->0<=O (g.set b (e:F)) a:= λ a f=>by
  by_cases c:a=b
  ·rw[c,j];omega
  ·rw[i a c];exact f
 refine⟨d.lg,by rw[iu];exact d.lt,d.way.giver y i,d.gm,λ a h=>?_,λ a h t=>?_,λ N K=>?_,λ a h r=>?_,d.du,λ x C f a h G L=>?_⟩
 ·by_cases c:a=b
  ·rw[c,j];omega
  ·rw[i a c];exact d.tm a h
 ·by_cases c:a=b
  ·subst c;rw[j];simp;exact⟨E,H,D⟩
  ·rw[i a c] at t ⊢;exact d.tb a h t
 ·rcases List.mem_append.1 K with f | f
  ·obtain⟨a,z,A,B⟩:=d.q N f;exact⟨a,z,A,B.imp id (M a)⟩
  ·simp at f;exact⟨b,s,f,Or.inr (by rw[j];omega)⟩
 ·by_cases c:a=b
  ·exact Or.inl (by rw[c];simp)
  ·rw[i a c] at r;exact(d.cl a h r).imp (λ f=>List.mem_append_left _ f) id
 ·by_cases c:a=b
  ·right;rw[c,j];omega
  ·rw[i a c];refine d.bk x C f a h G λ u=>L ⟨u.1,by have:=u.2;omega⟩
theorem dO.stuck {d e:J} {m:J->J->F} {k j q l:J->F} {o n:ac} {w:J->J} (f:dO d e m l o n [] w fG fG) (p:dV bY d k j m q l) (s:e<d) (u:0<q e):¬jb bY d k j:=by
 refine Go.Proofs.YtkjnhlpccgjfhaaGreatDoor.bw p (λ b=>decide (b=e \/ 0<=O n b)) (λ a=>decide (0<=O o a)) (λ b a i c r v=>?_) (λ b a i c h t=>?_) (λ a c h=>?_) s (fW (Or.inl I)) u
 ·rcases f.cl b i (n3 r) with g | g
  ·simp at g
  ·exact fW (g a c v id)
 ·exact fW (f.bk a c (n3 h) b i t id)
 ·have:=f.du a c (n3 h);have:=p.du0 a c;omega
def io (a:ac):J:=(a.filter λ b=>decide (b<0)).length
theorem AX:∀(a:ac) (b:J) (c:F),b<a.length->O a b<0->0<=c->io (a.set b c)+1=io a
 | [],b,c,e,_,_=>by simp at e
 | h::a,0,c,_,f,g=>by
  have i:h<0:=by simpa [O] using f
  simp[io,i,Int.not_lt.2 g]
 | h::a,b+1,c,e,f,g=>by
  have d:=AX a b c (by simpa using e) (by simpa [O] using f) g;unfold io at d ⊢;exact yf
end Go.Proofs.YtkjnhlpccgjfhaaGreatDoor
