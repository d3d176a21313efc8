/- A part of the proof: lemmas (my texts, shortened by a program of mine). -/
import Derived.Test.YtkjnhlpccgjfhaaGreatDoorC03
set_option linter.all false
set_option maxRecDepth 100000
set_option maxHeartbeats 4000000
namespace Go.Proofs.YtkjnhlpccgjfhaaGreatDoor
open Go.RowKit
open Go.Proofs.Tryz
open _root_.Array renaming replicate->mJ,setIfInBounds_comm->rJ
open BitVec renaming ofInt->ka,ofNat->kM,toNat_ofNat->po
open Bool renaming and_eq_true->b9,false->ak,true->ae,true_and->eo
open Go renaming Calls->aY,Oper->bD,Value->ay,World->af,bodyPost_ret->aK,callFunc->b0,getD_set_ne->kc,ready_mono->ke,results->aJ,wpQuiet_nil->dn
open Go.BinOp renaming and->fY
open Go.Ending renaming returned->aV
open Go.IntKind renaming i64->cz
open Go.IntWalk renaming i64_in->bV
open Go.Obj renaming cells->al
open Go.Region renaming Mode->hY,binds->jD,free_spec->nX,noSelect->kb,noSelect_spec->n2,ready->ef,wanted->jI
open Go.Result renaming andThen_ok->ex
open Go.Sem renaming run->c9,run_bind->eC,run_pure->ey
open Go.Value renaming bool->aw,int->ed,slice->aa,tuple->aL
open Go.World.ownsRow renaming lt->fs
open List renaming length_cons->jG,length_set->iu,range->cN,replicate->bE
open Nat renaming le_of_lt->h3,le_refl->bL,lt_of_le_of_lt->jB,lt_succ_self->gB,mod_eq_of_lt->pl,or_lt_two_pow->kd
open Ne renaming symm->eA
open Option renaming isNone_iff_eq_none->eB,none->aj,some->Z
open Option.some renaming inj->iO
open Or renaming inl->bj,inr->aP
open _root_ renaming Array->bg,Bool->a8,Int->F,List->aU,Nat->J,absurd->bC,beq_iff_eq->cR,congrArg->be,decide_eq_true_eq->hB,if_neg->aF,if_pos->a7,rfl->I
variable {p q:Prop}
section
variable {P : Program} {ops : bg bD} {md : hY} {C : af → Prop}
def rC (md:hY) (ops:bg bD) (c:J):a8 :=
 (cN c).all λ a=>(a==0)||(cN (c+1)).any λ b=>decide (a<b)&&Region.waitsFor md ops b a
theorem Aw {a:J} {done:bg a8} (D:rC md ops a=ae) (y:lB md ops a=ae) (O:a<ops.size) (q:HeadInv md ops a done) (A:done.getD 0 ae=ae):
  ∀(j g:J),a-g=j->g<a->done.getD g ae=ak->∀b,a<=b->b∉ef md ops done:=by
 intro j;induction j using Nat.strongRecOn with
 | _ j v =>
  intro g M B P b F l
  obtain⟨_,t,i,s⟩:=mem_ready.1 l
  have z:b<ops.size:=(Array.getElem?_eq_some_iff.1 i).1
  have C:g≠0:=by rintro rfl;rw[A] at P;cases P
  rcases Nat.eq_or_lt_of_le F with d | N
  ·subst d;have c:=List.all_eq_true.1 D g (List.mem_range.2 B);simp only[Bool.or_eq_true,cR] at c;obtain⟨e,o,f⟩:=List.any_eq_true.1 (c.resolve_left C);exact vC
  ·exact w6
theorem Km {done:bg a8} {a b:J} (e:done.getD a ae=ae):(done.setIfInBounds b ae).getD a ae=ae:=by
 by_cases c:b=a
 ·subst c;by_cases d:b<done.size
  ·simp[d]
  ·simp[Array.getElem?_eq_none (Nat.le_of_not_lt d)]
 ·rw[kc ae c];exact e
theorem Gq {g b:J} {Z9:bD} {H:ay} {w:bg a8->Act->Prop} (l:ops[b]? =Z Z9) (x:kb ops=ae)
  (F:rC md ops g=ae) (A:lB md ops g=ae) (E:g<ops.size) (B:b<g) (N:∀done k,w done k->∀a,a∈ef md ops done->g<=a):
  ∀(n:J) (done:bg a8) (k:Act),HeadInv md ops g done->done.getD 0 ae=ae ->
   (∀a e,ops[a]? =Z e->a≠b->done.getD a ae=ak->(∀c,c∈e.after->jD md c=ae->c.on≠b)->Z9.apart ops e=ae) ->
   b∈ef md ops done->YieldsIn P ops C Z9 H k->lE P md ops C g w n (done.setIfInBounds b ae) (k.put Z9.dst H)->lE P md ops C g w (n+1) done k:=by
 intro n;induction n with
 | zero =>
  intro done k t r _ m j f
  refine⟨List.ne_nil_of_mem m,λ a d=>?_⟩
  have o:a<g:=Nat.lt_of_not_le λ y=>Aw F A E t r _ b I B (mem_ready.1 m).1 a y d
  refine⟨o,?_⟩
  by_cases c:a=b
  ·rw[c];exact j.qOp l f
  ·exact bC (N _ _ f a (ke d c)) (Nat.not_le.2 o)
 | succ n O =>
  intro done k t r u m j f
  have s:=(mem_ready.1 m).1
  refine⟨List.ne_nil_of_mem m,λ a d=>?_⟩
  have o:a<g:=Nat.lt_of_not_le λ y=>Aw F A E t r _ b I B s a y d
  refine⟨o,?_⟩
  by_cases c:a=b
  ·rw[c];exact j.qOp l f
  ·obtain⟨v,e,q,G⟩:=mem_ready.1 d;have D:∀i,i∈e.after->jD md i=ae->i.on≠b:=by
    exact wB
   refine yr ?_;intro p;refine qOp_mono (λ M z=>O _ M (t.set d o) (Km r) ?_ (ke m (eA c)) z.1 ?_) p
   ·exact v7
   ·rw[rJ _ _ c];exact z.2
theorem IM {e g:J} {l:Act->Prop} (x:kb ops=ae) (w:rC md ops e=ae) (u:lB md ops e=ae) (v:e<ops.size):
  ∀(d:aU bD) (a:J) (done:bg a8) (h:Act),1<=a->(∀b,b<d.length->d[b]? =ops[a+b]?)->a+d.length=e->HeadInv md ops e done->(∀b,b<a->done.getD b ae=ae) ->
   kG md ops g d.length a done=ae->wpQuiet P ops C l d h->lE P md ops C e (λ m p=>(lx md ops g e m=ae /\ ∀b,b<e->m.getD b ae=ae) /\ l p) d.length done h:=by
 intro d;induction d with
 | nil =>
  intro a done h _ _ o _ c f n
  obtain rfl:a=e:=by simpa using o
  exact⟨⟨by simpa [kG] using f,c⟩,n⟩
 | cons A d z =>
  intro a done h F k o i c f n
  have j:ops[a]? =Z A:=by simpa using (k 0 ar).symm
  rw[jG] at o f
  simp only[kG,b9] at f
  have q:a<e:=E
  have r:a∈ef md ops done:=by simpa using f.1.1
  obtain⟨G,y,t⟩:=yieldsIn_of_qOp j (show qOp P ops C a (wpQuiet P ops C l d) h by unfold qOp;simp only[j];exact n)
  refine Gq j x w u v q (λ m p c=>Bn _ _ _ c.1.1 c.1.2) d.length done h i (c 0 E) (nX j f.1.2) r y (z (a+1) _ _ E ?_ E (i.set r q) ?_ f.2 t)
  ·exact xg
  ·exact wR
end
def CA (a:bg bD) (b:J):a8 :=
  kb a&&decide (b<a.size)&&decide (1<=b)&&rC .any a b&&lB .any a b&&(ef .any a (mJ a.size ak)).contains 0&&Region.free .any a (mJ a.size ak) 0
   && kG .any a (a.size-b) (b-1) 1 ((mJ a.size ak).setIfInBounds 0 ae)
theorem l7 {i:Program} {id:J} {h:Exit->Act->af->Prop} {d:Act} {c:af} {a:aU bD} (b:J) (g:bD) (e:Operand) (L:i.follows .mixedOrders=ae) (v:CA a.toArray b=ae)
  (M:a[0]? =Z g) (N:g.op=.move e) (I:g.guard=aj)
  (x:∀(C:Tmp) j T d c,h (.panic j) (d.put (Z C) T) c->h (.panic j) d c) (q:∃p,g.dst=Z p)
  (k:wpQuiet i a.toArray (λ f=>∃e,f=cx c e) (λ o=>∀f,(∃e,f=cx c e)->wpList i a.toArray h (a.drop b) o f) ((a.take b).drop 1) (d.put g.dst (d.eval e))):(Code.region id a.toArray ae).wp i h d c:=by
 simp only[CA,b9,hB] at v;obtain⟨⟨⟨⟨⟨⟨⟨r,B⟩,V⟩,P⟩,G⟩,O⟩,H⟩,K⟩:=v;have U:b<a.length:=by simpa using B
 have m:((a.take b).drop 1).length=b-1:=by simp;omega
 have y:(a.drop b).length=a.toArray.size-b:=ar;have R:HeadInv .any a.toArray b (mJ a.toArray.size ak) :=
  ⟨ar,λ n W _ A=>(by rw[getD_replicate_false] at A;cases A),λ C _ Q=>getD_in (by simpa using Q) (getD_replicate_false _ _)⟩
 have t:0∈ef .any a.toArray (mJ a.toArray.size ak):=by simpa using O
 have S:=R.set t (show 0<b from E);have s:a.toArray[0]? =Z g:=by simpa using M
 have F:=IM (P:=i) (C:= λ f=>∃e,f=cx c e) (md:=.any) (g:=a.toArray.size-b) r P G B ((a.take b).drop 1) 1 _ (d.put g.dst (d.eval e)) E
  (λ n z=>by rw[m] at z;simp[List.getElem?_drop,List.getElem?_take];rw[a7 E,Nat.add_comm]) (by rw[m];omega) S
  (λ n z=>by
    obtain rfl:n=0:=E;simp) (by rw[m];exact K) k
 refine wp_region_any L ?_;have l:a.toArray.size=(b-1+(a.toArray.size-b))+1:=E;rw[l];obtain⟨p,q⟩:=q;refine wpAny_first s (n2 r) (λ j d c k=>by rw[q] at k;exact x p j _ d c k) _ _ d _ (nX s ?_) ?_ (bj ⟨?_,λ c=>?_⟩) ?_ (v:=d.eval e)
 ·rw[<- l];exact H
 ·rw[<- l];exact t
 ·simp[jI,I]
 ·simp[execOp,N]
 have u:=Au (Q:=h) (g:=a.toArray.size-b) (λ done o f D w=>by
  have:=Av (md:=.any) (Q:=h) r x (a.drop b) b done o f (λ n=>by simp[List.getElem?_drop]) (by rw[y];exact w.1.1) (w.2 f D);rwa [y] at this) _ _ _ {c with drawn:=c.drawn+1} (qC (bI c)) F
 rw[m] at u;rw[<- l];exact u
theorem mu (a b:J) (h:a<1000000000):bits fY cz ((a:F)/2^b) 1=if a.testBit b then 1 else 0:=by
 have c:((a:F)/2^b)=((a/2^b:J):F):=ar;rw[c];have j:a/2^b<1000000000:=jB (Nat.div_le_self _ _) h;have d:bits fY cz ((a/2^b:J):F) 1=((a/2^b&&&1:J):F):=by
  have e:(ka 64 ((a/2^b:J):F))=kM 64 (a/2^b):=by rw[BitVec.ofInt_natCast]
  have f:(ka 64 (1:F))=kM 64 1:=rfl;show IntKind.i64.wrap ((((ka 64 ((a/2^b:J):F))&&&(ka 64 1)).toNat:J):F)=_;rw[e,f];have g:(kM 64 (a/2^b)&&&kM 64 1).toNat=(a/2^b&&&1):=by
   exact xG
  rw[g];apply bV;have:a/2^b&&&1<=1:=Nat.and_le_right;omega
 rw[d,Nat.and_one_is_mod,Nat.testBit_eq_decide_div_mod_eq];by_cases i:a/2^b%2=1
 ·simp[i]
 ·have:a/2^b%2=0:=E;simp[this]
theorem Dk (b c:J) (f:b<1000000000) (h:c<1000000000):bits BinOp.or cz (b:F) (c:F)=((b|||c:J):F):=by
 refine s3 ?_;intro a;show IntKind.i64.wrap ((((ka 64 (b:F))|||(ka 64 (c:F))).toNat:J):F)=_;rw[a,a];have e:(kM 64 b|||BitVec.ofNat 64 c).toNat=(b|||c):=by
  rw[BitVec.toNat_or,po,po,pl E,pl E]
 rw[e];apply bV;have:b|||c<2^30:=kd E E
 omega
theorem gO (a:J) (c:a<=29):wrap64 (2^a)=((2^a:J):F):=by
 have d:(2^a:J)<=2^29:=Nat.pow_le_pow_right aX c;have b:((2:F)^a)=((2^a:J):F):=ar;rw[b];generalize (2^a:J)=e at *;rw[IntWalk.wrap64_in];omega
def bZ (a b:J):a8:=a.testBit b
theorem lk (b:J) (a:F) (d:af) (g:b<1000000000) (k:0<=a) (i:a<=29):
  aY prog 66 #[M b,M a] d λ f e=>f=aV (aw (bZ b a.toNat)) /\ d=e:=by
 obtain⟨c,rfl⟩:∃c:J,a=(c:F):=⟨a.toNat,E⟩;have j:=mu b c g;go_enter func66,ntmps66;go_wp2;all_goals go_ret
 all_goals exact⟨ct (by simp[bZ, *]),I⟩
def b5 (c:J) (e:ac) (d:J):J:=bx (λ b a=>if bZ c b then a|||2^(O e b).toNat else a) 0 d
def ev (c:J) (e:ac) (d:J):J:=bx (λ b a=>if bZ c (O e b).toNat then a|||2^b else a) 0 d
theorem qR (d:J) (b:ac) (c g:J) (h:∀e,e<g->0<=O b e /\ O b e<c) (a:J) (k:a<=g):b5 d b a<2^c:=by
 induction a with
 | zero=>exact Nat.two_pow_pos c
 | succ a i =>
  have f:=i E
  have j:=h a E
  show (if bZ d a then b5 d b a|||2^(O b a).toNat else b5 d b a)<2^c
  split
  ·exact kd f (Nat.pow_lt_pow_right aX E)
  ·exact f
theorem q7 (b:J) (d:ac) (c:J) (a:J) (g:a<=c):ev b d a<2^c:=by
 induction a with
 | zero=>exact Nat.two_pow_pos c
 | succ a f =>
  have e:=f E
  show (if bZ b (O d a).toNat then ev b d a|||2^a else ev b d a)<2^c
  split
  ·exact kd e (Nat.pow_lt_pow_right aX E)
  ·exact e
theorem Kn (a:J) (b:a<=29):2^a<1000000000:=by
 have:2^a<=2^29:=Nat.pow_le_pow_right aX b;omega
def bF (b:J->J) (f:ac) (d e:J):ac:=bx (λ a c=>c.set (b a) (O c (b a)+O f a)) (bE d 0) e
theorem jV (c:J->J) (d:ac) (a b:J):(bF c d a b).length=a:=by
 induction b with
 | zero=>simp[bF,bx]
 | succ b e=>show ((bF c d a b).set _ _).length=a;rw[iu];exact e
theorem mh (b:J->J) (c:ac) (d i:J) (f:F) (o:0<=f) (k:∀g,g<i->0<=O c g /\ O c g<=f) (a:J) (p:a<=i) (e:J):0<=O (bF b c d a) e /\ O (bF b c d a) e<=f*a:=by
 induction a generalizing e with
 | zero=>show 0<=O (bE d 0) e /\ _;rw[eF];simp;show O (bE d 0) e<=0;rw[eF];omega
 | succ a h =>
  have j:f*((a+1:J):F)=f*a+f:=by rw[Int.natCast_succ,Int.mul_add,Int.mul_one]
  have l:=h E e
  have m:=h E (b a)
  have n:=k a E
  show 0<=O ((bF b c d a).set (b a) (O (bF b c d a) (b a)+O c a)) e /\ O ((bF b c d a).set (b a) (O (bF b c d a) (b a)+O c a)) e<=_
  rw[cO,j]
  split<;>omega
theorem mo (b a:J) (c:b<1000000000) (d:a<=29):bits BinOp.or cz (b:F) (2^a)=((b|||2^a:J):F):=by
 have:=Dk b (2^a) c (Kn a d);simpa using this
theorem HI (d p:J) (q:aG) (b v:J) (c:ac) (n:af) (x:d<1000000000) (D: n.cell? (ad p 0)=Z (aa q b v)) (s:an n q b c) (N:b<=4) (g:∀a,a<b->0<=O c a /\ O c a<=29):
  aY prog 349 #[M d,br p] n λ w u=>w=aV (M (ev d c b)) /\ n=u:=by
 have K:=s.cap;go_enter func349,ntmps349;go_wp2;go_loop [4,5,6,9] (λ z _ _ o=>∃a:J,a<=b /\ o=M a /\ z=M (ev d c a)) (λ _ _ _ o=>b-(intOf o).toNat)
 case atStart=>exact⟨0,E,I,I⟩
 case round =>
  obtain⟨a,L,rfl,rfl⟩:=hrel;by_cases m:a<b
  ·obtain⟨C,R,rfl,H,A,y⟩:=s.at bA m;refine sR ?_;intro e S f l;rw[f] at y S;have G:=mu d e x;have Q:=gO a E;have P:=q7 d c 29 a E;have k:=ab (mo (ev d c a) a E E);have i:U (ev d c (a+1)=if bZ d e then ev d c a|||2^a else ev d c a):=by rw[<- l.o];rfl
   clear f g;cases j:bZ d e
   ·have t:d.testBit e=ak:=j;exact xt
   ·have t:d.testBit e=ae:=j;exact vV
  ·exact mP
theorem IN (d:J) (F:aG) (b o:J) (c:ac) (f:af) (p:d<1000000000) (l:an f F b c) (y:b<=4) (j:∀a,a<b->0<=O c a /\ O c a<=29):
  aY prog 374 #[M d,aa F b o] f λ i g=>i=aV (M (ev d c b)) /\ f=g:=by
 have v:=l.cap;go_enter func374,ntmps374;go_wp2;go_loop [5,6] (λ r e=>∃a:J,a<=b /\ e=M a /\ r=M (ev d c a)) (λ _ e=>b-(intOf e).toNat)
 case atStart=>exact⟨0,E,I,I⟩
 case round =>
  obtain⟨a,x,rfl,rfl⟩:=hrel;by_cases k:a<b
  ·obtain⟨t,D,rfl,u,s,w⟩:=l.at bA k;have C:=j a k;have A:=gO a E;have z:=q7 d c 29 a E;have m:=ab (mo (ev d c a) a E E);have n:U (ev d c (a+1)=if bZ d (O c a).toNat then ev d c a|||2^a else ev d c a):=rfl;clear j;cases q:bZ d (O c a).toNat;all_goals
    go_wp2_with (first | (go_at_call 66;refine(lk _ _ _ p E E).mono ?_;rintro i g ⟨rfl,rfl⟩));go_round
    case rel=>exact⟨a+1,E,by go_num,by rw[n.o,q];first | rfl | (rw[m.o];rfl)⟩
    case measure=>simp[intOf];omega
  ·exact mP
theorem AF (d:J) (s:aG) (b v:J) (c:ac) (q:af) (x:d<1000000000) (n:an q s b c) (N:b<=29) (g:∀a,a<b->0<=O c a /\ O c a<=28):
  aY prog 276 #[M d,aa s b v] q λ w u=>w=aV (M (b5 d c b)) /\ q=u:=by
 have K:=n.cap;go_enter func276,ntmps276;go_wp2;go_loop [5,6,7,10] (λ z _ _ p=>∃a:J,a<=b /\ p=M a /\ z=M (b5 d c a)) (λ _ _ _ p=>b-(intOf p).toNat)
 case atStart=>exact⟨0,E,I,I⟩
 case round =>
  obtain⟨a,L,rfl,rfl⟩:=hrel;by_cases m:a<b
  ·obtain⟨D,Q,rfl,H,C,y⟩:=n.at bA m;refine sR ?_;intro e S f l;have P:=qR d c 29 b (λ A n=>by have:=g A n;omega) a E;rw[f] at y S;have G:=mu d a x;refine yC ?_;intro o k i;clear f g;cases j:bZ d a
   ·have t:d.testBit a=ak:=j;exact xt
   ·have t:d.testBit a=ae:=j;exact vV
  ·exact mP
theorem tY (d:J) (s:aG) (b u:J) (c:ac) (p:af) (v:d<1000000000) (j:an p s b c) (K:b<=29) (g:∀a,a<b->0<=O c a /\ O c a<=28):
  aY prog 212 #[M d,aa s b u] p λ t q=>t=aV (M (b5 d c b)) /\ p=q:=by
 have G:=j.cap;go_enter func212,ntmps212;go_wp2;go_loop [5,6] (λ y n=>∃a:J,a<=b /\ n=M a /\ y=M (b5 d c a)) (λ _ n=>b-(intOf n).toNat)
 case atStart=>exact⟨0,E,I,I⟩
 case round =>
  obtain⟨a,H,rfl,rfl⟩:=hrel;by_cases m:a<b
  ·obtain⟨C,N,rfl,D,A,w⟩:=j.at bA m;refine sR ?_;intro e S f l;have L:=qR d c 29 b (λ z j=>by have:=g z j;omega) a E;rw[f] at w S;refine yC ?_;intro o k i;clear f g;cases x:bZ d a;all_goals
    go_wp2_with (first | (go_at_call 66;refine(lk _ _ _ v E E).mono ?_;rintro t q ⟨rfl,rfl⟩));go_round
    case rel=>exact⟨a+1,E,by go_num,by rw[i.o,x];first | rfl | (rw[k.o];rfl)⟩
    case measure=>simp[intOf];omega
  ·exact mP
theorem Gr (d g:J) (p:aG) (a j:J) (c:ac) (b:af) (k:d<1000000000) (o: b.cell? (ad g 0)=Z (aa p a j)) (n:an b p a c) (m:a<=29) (l:∀e,e<a->0<=O c e /\ O c e<=28):
  aY prog 275 #[M d,br g] b λ i f=>i=aV (M (b5 d c a)) /\ b=f:=by
 go_enter func275,ntmps275;go_wp2_with (first | (go_at_call 276;refine(AF _ _ _ _ _ _ k n m l).mono ?_;rintro i f ⟨rfl,rfl⟩));go_ret;exact⟨I,I⟩
def eS (a:ac) (c d:F):a8:=bq (λ b=>bi 0 (d-1) (O a b)) a.length&&((a.length:F)==c)
theorem qu (o:aG) (e w:J) (b:ac) (i c:F) (n:af) (k:an n o e b):
  aY prog 303 #[aa o e w,M i,M c] n λ x t=>x=aV (aw (eS b i c)) /\ n=t:=by
 have N:=k.cap;have m:=ab k.len;cases P:bq (λ a=>bi 0 (c-1) (O b a)) b.length
 ·obtain⟨f,G,p⟩:=ii P;have l:U (eS b i c=ak):=by simp[U,eS,P]
  rw[l.o];rw[m.o] at G;have s:=ab p;clear p P;go_enter func303,ntmps303;go_wp2;go_loop [6,8,11] (λ _ _ g=>∃a:J,a<=f /\ g=M a) (λ _ _ g=>e-(intOf g).toNat)
  case atStart=>exact⟨0,E,I⟩
  case round =>
   obtain⟨a,D,rfl⟩:=hrel;have j:a<e:=E;obtain⟨v,H,rfl,B,_,C⟩:=k.at bA j;cases d:bi 0 (c-1) (O b a)
   ·rcases j0.1 d with y | y
    ·exact h8
    ·have K:c<=O b a:=E;by_cases L:O b a<0;all_goals
      go_wp2;go_ret;exact⟨I,I⟩
   ·have r:=bM.1 d;have z:0<=O b a:=E;have A:O b a<c:=E;refine pV ?_;intro q;go_wp2;exact lW
 ·have u:=ab ((cp _ _).1 P);have l:U (eS b i c=((e:F)==i)):=by show eS b i c=_;unfold eS;rw[P,eo,m.o]
  rw[l.o];clear P;go_enter func303,ntmps303;go_wp2;go_loop [6,8,11] (λ _ _ g=>∃a:J,a<=e /\ g=M a) (λ _ _ g=>e-(intOf g).toNat)
  case atStart=>exact⟨0,E,I⟩
  case round =>
   obtain⟨a,D,rfl⟩:=hrel;by_cases j:a<e
   ·obtain⟨v,H,rfl,B,_,C⟩:=k.at bA j;have d:=u.o a (by rw[m.o];exact j);have r:=bM.1 d;have z:0<=O b a:=E;have A:O b a<c:=E;go_wp2;exact lW
   ·go_wp2;all_goals go_ret
    all_goals exact⟨ct (by simp[*]),I⟩
theorem qF (p:aG) (d w:J) (f:ac) (L b:F) (o:af) (k:an o p d f) (G:bK L=ae) (B:bK b=ae):
  aY prog 342 #[M L,aa p d w,M b] o λ c e=>c=aV (aw (eS f L b)) /\ o=e:=by
 have D:=k.cap;have m:=ab k.len;have K:1<=b /\ b<=4:=by rcases cG.1 B with n | n | n | n<;>omega
 cases i:bq (λ a=>bi 0 (b-1) (O f a)) f.length
 ·obtain⟨s,A,q⟩:=ii i;have l:U (eS f L b=ak):=by simp[U,eS,i]
  rw[l.o];rw[m.o] at A;have u:=ab q;clear q i;go_enter func342,ntmps342;go_wp2;go_loop [6,7] (λ _ g=>∃a:J,a<=s /\ g=M a) (λ _ g=>d-(intOf g).toNat)
  case atStart=>exact⟨0,E,I⟩
  case round =>
   obtain⟨a,z,rfl⟩:=hrel;have j:a<d:=E;obtain⟨v,C,rfl,x,_,y⟩:=k.at bA j;cases r:bi 0 (b-1) (O f a)
   ·exact sq
   ·have H:a≠s:=by rintro rfl;have:=u.o;rw[r] at this;cases this
    exact pz
 ·have t:=ab ((cp _ _).1 i);have l:U (eS f L b=((d:F)==L)):=by show eS f L b=_;unfold eS;rw[i,eo,m.o]
  rw[l.o];clear i;go_enter func342,ntmps342;go_wp2;go_loop [6,7] (λ _ g=>∃a:J,a<=d /\ g=M a) (λ _ g=>d-(intOf g).toNat)
  case atStart=>exact⟨0,E,I⟩
  case round =>
   obtain⟨a,z,rfl⟩:=hrel;by_cases j:a<d
   ·obtain⟨v,C,rfl,x,_,y⟩:=k.at bA j;have r:=t.o a (by rw[m.o];exact j);exact pz
   ·exact vU
theorem dL {c:J} {e f:af} {a b:J} {d:ay} (h:Below c e f) (i:a<c) (g: e.cell? ⟨a,b,aj⟩=Z d): f.cell? ⟨a,b,aj⟩=Z d:=(h.cell (p:=⟨a,b,aj⟩) i).trans g
theorem q6 {c:J} {d e:af} {a b:J} (g:Below c d e) (h:a<c) (f: d.frozen? ⟨a,b,aj⟩=ak): e.frozen? ⟨a,b,aj⟩=ak:=(g.frozen (p:=⟨a,b,aj⟩) h).trans f
theorem oS (Z2 g:F) (w:aG) (i L:J) (k:ac) (r:FuncId) (N:bg ay) (j:J->J) (a:af) (Z4:an a w i k) (Zr:i<=16) (D:bK g=ae)
  (Zx:∀(Z1:bg ay) (l:af),c9 prog (b0 r Z1) l=.ok (.enter r Z1) l)
  (s:∀b,b<i->0<=O k b /\ O k b<=1000000) (U:∀o,o<i->j o<aH g)
  (Z6:∀(o:J) (l:af),o<i->ap a l->aY prog r (#[M o]++N) l λ n ZZ=>n=aV (M (j o)) /\ ap l ZZ):
  bp 227 #[am Z2 w i L,M g,.func (.func r) #[] N] a (bh g (bF j k (aH g) i)):=by
 have Zy:=Z4.cap;have ZV:=ab Z6;clear Z6;have ZW:=ab U;clear U;have K:=ab (mh j k (aH g) i 1000000 E s);have Zq:1<=g /\ g<=4:=by rcases cG.1 D with x | x | x | x<;>omega
 have Z9:=ho D;have ZK:=b8 D;go_enter func227,ntmps227;go_wp2_with (at_make;refine e6 I _ _ I (aH g) _ _ I I Z9 Z9 E ?_;intro v Zk p Z3;(have ZL:=aS p a.heap.size 1 (aa w i L)));have ZM:=aS p a.heap.size 0 (M Z2);obtain⟨c,d,e,f⟩:=cj (a.heap.size+1) p ar;have R:ap a v:=dz p;have Z0:av v (a.heap.size+1+1) (aq (a.heap.size+1+1) (aH g) (aH g)) (bE (aH g) 0):=by simpa using Zk
 have ZG:a.heap.size+1+1<v.heap.size:=by simpa using Z3
 clear Zk p Z3;go_loopw [9,10,17] (λ _ _ G wr=>∃b:J,b<=i /\ G=M b /\ av wr (a.heap.size+1+1) (aq (a.heap.size+1+1) (aH g) (aH g)) (bF j k (aH g) b) /\ Below (a.heap.size+1+1) v wr) (λ _ _ G _=>i-(intOf G).toNat)
 case atStart=>exact⟨0,E,I,Z0,Below.refl _ _⟩
 case round =>
  obtain⟨b,Zt,rfl,A,m⟩:=hrel;refine l1 ?_;intro q;by_cases t:b<i
  ·obtain⟨ZE,Zm,rfl,ZA,ZH,Zw⟩:=Z4.at q t;have Zp:=s b t;have X:=ZW.o b t;have ZB:=K.o b E (j b);have Zs:(b:F)<=16:=E;clear s;go_wp2_with fail;refine(ZV.o b wr t q).mono ?_;rintro n ZI ⟨rfl,z⟩;have C:=A.below z;obtain⟨Zz,Zv,_⟩:=C.cellAt X;obtain⟨Zl,Z5,ZY,Y⟩:=dC C X (O (bF j k (aH g) b) (j b)+O k b);have ZJ:a.heap.size+1+1<=ZI.heap.size:=by have:=m.size;have:=z.size;omega
   have ZP:=ab (iD (m.trans (z.mono (by have:=m.size;omega))) ZJ Y aZ);have ZQ:=ab Z5;clear Z5 Y C A;exact xr
  ·have ZN:b=i:=E;subst ZN;refine td ?_;intro S T V W;obtain⟨ZF,Zn,ZD,ZU,ZO⟩:=A.ints;injection ZU with ZT ZS ZR
   subst ZT ZS ZR;have ZX:=ab (λ u (Zu:u<aH g)=>(by have:=K.o b aZ u;omega:0<=O (bF j k (aH g) b) u /\ O (bF j k (aH g) b) u<=4000000000000000000));clear c d e f ZM ZL s;go_wp2_with fail;refine(jl _ _ _ _ _ _ ZO ZK.2 ZX.o).mono ?_;refine k2 ?_;intro Z7 H Q P B y Z8;have Zo:a.heap.size+1+1<wr.heap.size:=by have:=m.size;omega
   have c:=S;have d:=T;have e:=V;have f:=W;clear S T V W;refine kY ?_;intro e f c d;have ZC:=au q y;go_wp2;refine aK (by simp[aJ,results227,go_sem,c,d]) I ⟨⟨_,I,((B.setBelow (by simp;omega) _).setBelow (by simp;omega) _).mono E⟩,?_⟩;exact bB
theorem Gs (c:bg ay) (a:af):c9 prog (b0 349 c) a=.ok (.enter 349 c) a:=by
 have g:(Tryz.f349.name== "runtime.NumGoroutine")=ak:=ah;have b:Tryz.f349.body.isNone=ak:=ah;have d:¬Tryz.f349.name= "runtime.NumGoroutine" :=by simpa using g
 have e:¬Tryz.f349.body=aj:=by intro f;rw[f] at b;simp at b
 simp only[b0,eC,run_program,ex,func349,cR,eB,aF d,aF e,ey]
def fa (d:F) (c b:ac) (a:F):bc :=
 if aI d c&&bK a&&eS b a d then bh a (bF (λ e=>ev e b b.length) c (aH a) c.length) else bc.no
theorem bt {d:F} {b:ac} (c:aI d b=ae):bK d=ae /\ b.length=aH d /\ b.length<=16 /\ (∀a,a<b.length->0<=O b a /\ O b a<=1000000) /\ 1<=aW b /\ aW b<=1000000 /\ bT b=1:=by
 exact xI
theorem qm {b:ac} {d e:F} (c:eS b d e=ae):(b.length:F)=d /\ ∀a,a<b.length->0<=O b a /\ O b a<=e-1:=by
 simp only[eS,b9,cR] at c;exact⟨c.2,λ a f=>bM.1 ((cp _ _).1 c.1 a f)⟩
theorem zZ (g o:F) (q L:aG) (m r l N:J) (p j:ac) (a:af) (z:an a q m p) (x:an a L l j):
  bp 305 #[am g q m r,aa L l N,M o] a (fa g p j o):=by
 have D:=z.below (w':=((a.alloc (al #[M g,aa q m r] 29)).alloc (al #[aa L l N] 27)).alloc (al #[M 0,aa aj 0 0] 29)) (((az a _).alloc ar _).alloc bO _);cases C:aI g p
 ·have K:U (fa g p j o=bc.no):=by simp[U,fa,C]
  rw[K.o];go_enter func305,ntmps305;go_wp2_with fail;refine mY ?_;intro u i c d e f b;clear i;go_wp2;refine aK (v:=aL #[am 0 aj 0 0,aw ak]) (by simp[aJ,results305,go_sem,c,d]) I ⟨?_,?_⟩
  ·exact b1.no _ _
  ·exact bB
 ·obtain⟨Y0,ZQ,ZZ,W,_,_,_⟩:=bt C;have Z2:=ab W;clear W;cases k:(bK o&&eS j o g)
  ·have K:U (fa g p j o=bc.no):=by
    show fa g p j o=bc.no;unfold fa;rw[C,eo,k];rfl
   rw[K.o]
   have Z3:bK o=ak \/ (bK o=ae /\ eS j o g=ak):=by
    exact wF
   rcases Z3 with Y | ⟨Y,ZF⟩
   all_goals
    go_enter func305,ntmps305;go_wp2_with fail;refine(cn _ _ _ _ _ _ D).mono ?_;rintro n u ⟨rfl,i⟩;obtain⟨c,d,e,f⟩:=cj (a.heap.size+1+1) i ar;have b:ap a u:=(((az a _).alloc ar _).alloc bO _).trans (i.mono bO);have Z5:=aS i (a.heap.size+1) 0 (aa L l N);have s:=aS i a.heap.size 0 (M g);have R:=x.below b;clear i;go_wp2_with (first | (go_at_call 139;refine(fj _ _).mono ?_;rintro n G ⟨rfl,rfl⟩) | (go_at_call 303;refine(qu _ _ _ _ _ _ _ R).mono ?_;rintro n G ⟨rfl,rfl⟩));refine aK (v:=aL #[am 0 aj 0 0,aw ak]) (by simp[aJ,results305,go_sem,c,d]) I ⟨?_,?_⟩
    ·exact b1.no _ _
    ·exact bB
  ·have A:bK o=ae:=by cases Y:bK o<;>simp[Y] at k;rfl
   have X:eS j o g=ae:=by rw[A] at k;simpa using k
   have K:U (fa g p j o=bh o (bF (λ w=>ev w j l) p (aH o) m)):=by
    show fa g p j o=_;unfold fa;exact pM
   rw[K.o];obtain⟨ZW,Z4⟩:=qm X;have ZO:g<=4 /\ o<=4 /\ 1<=o:=by
    exact py
   have ZX:l<=4:=by have:=x.len;omega
   have Z9:=ab x.len;have T:=ab z.len;have Z0:U (∀v,v<l->0<=O j v /\ O j v<=29):= λ v S=>by have:=Z4 v (by rw[Z9.o];exact S);omega
   have Z6:aH o=2^l:=by
    have:=Z9.o;have n:o.toNat=l:=E;unfold aH;rw[n]
   have Z1:=ab Z6;clear Z4 ZW Z6 k;go_enter func305,ntmps305;go_wp2_with fail;refine mY ?_;intro u i c d e f b;have Z5:=aS i (a.heap.size+1) 0 (aa L l N);refine fg ?_;intro s t;have R:=x.below b;have ZU:=z.below b;refine m6 ?_;intro ZP;clear i;go_wp2_with (first | (go_at_call 139;refine(fj _ _).mono ?_;rintro n G ⟨rfl,rfl⟩) | (go_at_call 303;refine(qu _ _ _ _ _ _ _ R).mono ?_;rintro n G ⟨rfl,rfl⟩) | (go_at_call 227;fail));refine(oS g o q m r p 349 #[br (a.heap.size+1)] (λ w=>ev w j l) u ZU (by rw[<- T.o];exact ZZ) A Gs (λ v S=>Z2.o v (by rw[T.o];exact S)) (λ w _=>by rw[Z1.o];exact q7 _ _ _ _ aZ) (λ w G ZR V=>?_)).mono ?_
   ·exact(HI w _ _ _ _ _ G (by have:=T.o;omega) (ag V Z5) (R.below V) ZX Z0.o).mono λ n ZT ⟨ZY,ZV⟩=>⟨ZY,lb ZV⟩
   refine k2 ?_;intro Z7 H Q P B y Z8;refine kY ?_;intro e f c d;have ZS:=au b y;go_wp2;refine aK (by simp[aJ,results305,go_sem,c,d]) I ⟨⟨_,I,((B.setBelow (by simp;omega) _).setBelow (by simp;omega) _).mono E⟩,?_⟩;exact bB
theorem zz (u o:F) (Z5 ZN:aG) (g Z0 r ZA:J) (s p:ac) (a:af) (z:an a Z5 g s) (x:an a ZN r p) (A:bK o=ae):
  bp 344 #[am u Z5 g Z0,aa ZN r ZA,M o] a (fa u s p o):=by
 have ZW:=z.below (w':=(a.alloc (al #[M u,aa Z5 g Z0] 29)).alloc (al #[M 0,aa aj 0 0] 29)) ((az a _).alloc ar _);cases C:aI u s
 ·have Z6:U (fa u s p o=bc.no):=by simp[U,fa,C]
  rw[Z6.o];go_enter func344,ntmps344;go_wp2_with fail;refine(dA _ _ _ _ _ _ ZW).mono ?_;refine dP ?_;intro j i c d e f l;clear i;go_wp2;refine aK (v:=aL #[am 0 aj 0 0,aw ak]) (by simp[aJ,results344,go_sem,c,d]) I ⟨?_,?_⟩
  ·exact b1.no _ _
  ·exact bB
 ·obtain⟨Y0,Za,Zu,ZZ,_,_,_⟩:=bt C;have ZT:=ab ZZ;clear ZZ;cases X:eS p o u
  ·have Z6:U (fa u s p o=bc.no):=by
    show fa u s p o=bc.no;unfold fa;rw[C,A,X];rfl
   rw[Z6.o]
   go_enter func344,ntmps344
   go_wp2_with fail
   refine(dA _ _ _ _ _ _ ZW).mono ?_;rintro n j ⟨rfl,i⟩
   obtain⟨c,d,e,f⟩:=cj (a.heap.size+1) i ar
   have l:ap a j:=dz i
   have ZI:=aS i a.heap.size 0 (M u)
   have Z2:=x.below l
   clear i
   go_wp2_with (first | (go_at_call 342;refine(qF _ _ _ _ _ _ _ Z2 A Y0).mono ?_;rintro n ZU ⟨rfl,rfl⟩))
   refine aK (v:=aL #[am 0 aj 0 0,aw ak]) (by simp[aJ,results344,go_sem,c,d]) I ⟨?_,?_⟩
   ·exact b1.no _ _
   ·exact bB
  ·have Z6:U (fa u s p o=bh o (bF (λ v=>ev v p r) s (aH o) g)):=by
    show fa u s p o=_;unfold fa;exact pM
   rw[Z6.o]
   obtain⟨Zo,ZG⟩:=qm X
   have Y8:u<=4 /\ o<=4 /\ 1<=o:=by
    exact py
   have Zr:r<=4:=by have:=x.len;omega
   have ZK:=ab x.len
   have ZX:=ab z.len
   have Y9:g<=16:=by rw[<- ZX.o];exact Zu
   have Ze:=z.cap
   have ZB:U (∀b,b<r->0<=O p b /\ O p b<=29):= λ b Z4=>by have:=ZG b (by rw[ZK.o];exact Z4);omega
   have ZJ:aH o=2^r:=by
    have:=ZK.o;have n:o.toNat=r:=E;unfold aH;rw[n]
   have ZC:=ab ZJ
   have ZO:=ab (mh (λ v=>ev v p r) s (aH o) g 1000000 E (λ b Z4=>ZT.o b (by rw[ZX.o];exact Z4)))
   have ZH:=ho A
   have Zp:=b8 A
   clear ZG Zo ZJ
   go_enter func344,ntmps344
   go_wp2_with fail
   refine(dA _ _ _ _ _ _ ZW).mono ?_;rintro n j ⟨rfl,i⟩
   obtain⟨c,d,e,f⟩:=cj (a.heap.size+1) i ar
   have l:ap a j:=dz i
   have ZI:=aS i a.heap.size 0 (M u)
   have Z3:=aS i a.heap.size 1 (aa Z5 g Z0)
   have Z2:=x.below l
   have Y6:a.heap.size+1<j.heap.size:=b6 c
   clear i
   go_wp2_with (first | (go_at_call 342;refine(qF _ _ _ _ _ _ _ Z2 A Y0).mono ?_;rintro n ZU ⟨rfl,rfl⟩) | (at_make;refine e6 rfl _ _ rfl (aH o) _ _ rfl rfl ZH ZH E ?_;intro Zm Zq w Y5))
   replace Z3:=ag w Z3
   replace e:=aB w c e
   replace f:=aB w d f
   replace c:=ag w c
   replace d:=ag w d
   have R:=au l w
   clear ZI w Z2
   go_loopw [9,10] (λ ZV _ wr=>∃b:J,b<=g /\ ZV=M b /\ av wr j.heap.size (aq j.heap.size (aH o) (aH o)) (bF (λ v=>ev v p r) s (aH o) b) /\ Below j.heap.size Zm wr) (λ ZV _ _=>g-(intOf ZV).toNat)
   case atStart=>exact⟨0,E,I,Zq,Below.refl _ _⟩
   case round =>
    obtain⟨b,Z4,rfl,t,m⟩:=hrel;refine l1 ?_;intro q;have ZE:=dL m E Z3;by_cases ZL:b<g
    ·obtain⟨Zi,Y2,rfl,Zf,Zk,Zd⟩:=z.at q ZL;have Zn:=x.below q;have Y7:=ZT.o b (by rw[ZX.o];exact ZL);have ZM:ev b p r<aH o:=by rw[ZC.o];exact q7 _ _ _ _ aZ
     have ZZ:=ZO.o b E (ev b p r);have Zb:(b:F)<=16:=E;refine k7 ?_;intro G Z9;obtain⟨D,N,_⟩:=t.cellAt ZM;go_wp2_with (first | (go_at_call 374;refine(IN _ _ _ _ _ _ E Zn Zr ZB.o).mono ?_;rintro n ZU ⟨rfl,rfl⟩));refine ei 13 ah ah (λ _ _ _ _ _ Zv=>Zv) ?_;refine dY ?_;repeat (first | go_big_quiet_step ((fail)) | quiet_step ((fail)))
     refine et ?_;intro L k;refine ou ?_;intro K N D;obtain⟨Y1,ZR,ZY,ZS⟩:=dC K ZM (O (bF (λ v=>ev v p r) s (aH o) b) (ev b p r)+O s b);exact w9
    ·have Zs:b=g:=E;subst Zs;refine td ?_;intro S T V W;obtain⟨Zj,Y3,Zh,Zz,Zt⟩:=t.ints;injection Zz with Zy Zx Zw
     subst Zy Zx Zw;have ZD:=ab (λ Z1 (Zc:Z1<aH o)=>(by have:=ZO.o b aZ Z1;omega:0<=O (bF (λ v=>ev v p r) s (aH o) b) Z1 /\ O (bF (λ v=>ev v p r) s (aH o) b) Z1<=4000000000000000000));have Y4:a.heap.size+1<wr.heap.size:=by have:=m.size;omega
     clear c d e f Z3;go_wp2_with fail;refine(hk _ _ _ _ _ _ Zt Zp.2 ZD.o).mono ?_;refine k2 ?_;intro Z7 H Q P B y Z8;have c:=S;have d:=T;have e:=V;have f:=W;clear S T V W;refine kY ?_;intro e f c d;have Zg:=au q y;go_wp2;refine aK (by simp[aJ,results344,go_sem,c,d]) I ⟨⟨_,I,((B.setBelow (by simp;omega) _).setBelow (by simp;omega) _).mono E⟩,?_⟩;exact bB
def fO (d:ac) (b:J):J:=bx (λ a c=>c|||2^(O d a).toNat) 0 b
def hy (b:F) (a:ac):a8:=bq (λ c=>bi 0 (b-1) (O a c)) a.length&&(((a.length:F)==b)&&((fO a a.length:F)==(aH b:F)-1))
def mw (c:F) (b:ac) (a:J):a8:=bi 0 (c-1) (O b a)&& !(bZ (fO b a) (O b a).toNat)
def c8 (b:F) (a:ac):a8:=bq (mw b a) a.length&&((a.length:F)==b)
theorem u6:∀a:Fin 1,hy 1 [(a.val:F)]=c8 1 [(a.val:F)] /\ (c8 1 [(a.val:F)]=ae->(∀b c:Fin 2,b5 b.val [(a.val:F)] 1=b5 c.val [(a.val:F)] 1->b=c) /\ ∀c:Fin 2,(cN 2).any (λ b=>b5 b [(a.val:F)] 1==c.val)=ae):=cS
theorem u7:∀a b:Fin 2,hy 2 [(a.val:F),b.val]=c8 2 [(a.val:F),b.val] /\ (c8 2 [(a.val:F),b.val]=ae->(∀c d:Fin 4,b5 c.val [(a.val:F),b.val] 2=b5 d.val [(a.val:F),b.val] 2->c=d) /\ ∀d:Fin 4,(cN 4).any (λ c=>b5 c [(a.val:F),b.val] 2==d.val)=ae):=cS
theorem u9:∀a b c:Fin 3,hy 3 [(a.val:F),b.val,c.val]=c8 3 [(a.val:F),b.val,c.val] /\ (c8 3 [(a.val:F),b.val,c.val]=ae->(∀d e:Fin 8,b5 d.val [(a.val:F),b.val,c.val] 3=b5 e.val [(a.val:F),b.val,c.val] 3->d=e) /\ ∀e:Fin 8,(cN 8).any (λ d=>b5 d [(a.val:F),b.val,c.val] 3==e.val)=ae):=cS
theorem va:∀a b c d:Fin 4,hy 4 [(a.val:F),b.val,c.val,d.val]=c8 4 [(a.val:F),b.val,c.val,d.val] /\ (c8 4 [(a.val:F),b.val,c.val,d.val]=ae->(∀e f:Fin 16,b5 e.val [(a.val:F),b.val,c.val,d.val] 4=b5 f.val [(a.val:F),b.val,c.val,d.val] 4->e=f) /\ ∀f:Fin 16,(cN 16).any (λ e=>b5 e [(a.val:F),b.val,c.val,d.val] 4==f.val)=ae):=cS
theorem fP {a:F} {n:J} (c:0<=a /\ a<=(n:F)-1):∃b:Fin n,a=(b.val:F):=⟨⟨a.toNat,E⟩,by simp;omega⟩
theorem qS {b:J} {c:J->a8} (d:(cN b).any c=ae):∃a,a<b /\ c a=ae:=by
 obtain⟨a,e,f⟩:=List.any_eq_true.1 d;exact⟨a,List.mem_range.1 e,f⟩
theorem kz {e:F} {a:ac} (E:bK e=ae):hy e a=c8 e a /\ (c8 e a=ae->(∀b c,b<aH e->c<aH e->b5 b a a.length=b5 c a a.length->b=c) /\ ∀c,c<aH e->∃b,b<aH e /\ b5 b a a.length=c):=by
 cases t:bq (λ m=>bi 0 (e-1) (O a m)) a.length
 ·have C:bq (mw e a) a.length=ak:=by
   obtain⟨m,y,D⟩:=ii t;exact jn y (by show (bi 0 (e-1) (O a m)&&_)=ak;rw[D];rfl)
  have w:hy e a=ak:=by unfold hy;rw[t];rfl
  have x:c8 e a=ak:=by unfold c8;rw[C];rfl
  rw[w,x];exact⟨I,λ h=>by cases h⟩
 by_cases s:(a.length:F)=e
 ·have d:∀m,m<a.length->0<=O a m /\ O a m<=e-1:= λ m y=>bM.1 ((cp _ _).1 t m y)
  clear t;rcases cG.1 E with rfl | rfl | rfl | rfl
  ·match a,s,d with
   | [p],_,d =>
    obtain⟨f,l⟩:=fP (n:=1) (d 0 ar);change p=_ at l
    subst l
    refine⟨(u6 f).1,λ h=>⟨λ b c i j g=>by have:=((u6 f).2 h).1 ⟨b,i⟩ ⟨c,j⟩ g;exact be Fin.val this,λ c j=>?_⟩⟩
    obtain⟨b,i,g⟩:=qS (((u6 f).2 h).2 ⟨c,j⟩)
    exact⟨b,i,by simpa using g⟩
  ·match a,s,d with
   | [p,q],_,d =>
    obtain⟨f,l⟩:=fP (n:=2) (d 0 ar);change p=_ at l
    obtain⟨k,n⟩:=fP (n:=2) (d 1 ar);change q=_ at n
    subst l n
    refine⟨(u7 f k).1,λ h=>⟨λ b c i j g=>by have:=((u7 f k).2 h).1 ⟨b,i⟩ ⟨c,j⟩ g;exact be Fin.val this,λ c j=>?_⟩⟩
    obtain⟨b,i,g⟩:=qS (((u7 f k).2 h).2 ⟨c,j⟩)
    exact⟨b,i,by simpa using g⟩
  ·match a,s,d with
   | [p,q,v],_,d =>
    obtain⟨f,l⟩:=fP (n:=3) (d 0 ar);change p=_ at l
    obtain⟨k,n⟩:=fP (n:=3) (d 1 ar);change q=_ at n
    obtain⟨o,r⟩:=fP (n:=3) (d 2 ar);change v=_ at r
    subst l n r
    refine⟨(u9 f k o).1,λ h=>⟨λ b c i j g=>by have:=((u9 f k o).2 h).1 ⟨b,i⟩ ⟨c,j⟩ g;exact be Fin.val this,λ c j=>?_⟩⟩
    obtain⟨b,i,g⟩:=qS (((u9 f k o).2 h).2 ⟨c,j⟩)
    exact⟨b,i,by simpa using g⟩
  ·match a,s,d with
   | [p,q,v,B],_,d =>
    obtain⟨f,l⟩:=fP (n:=4) (d 0 ar);change p=_ at l
    obtain⟨k,n⟩:=fP (n:=4) (d 1 ar);change q=_ at n
    obtain⟨o,r⟩:=fP (n:=4) (d 2 ar);change v=_ at r
    obtain⟨u,A⟩:=fP (n:=4) (d 3 ar);change B=_ at A
    subst l n r A
    refine⟨(va f k o u).1,λ h=>⟨λ b c i j g=>by have:=((va f k o u).2 h).1 ⟨b,i⟩ ⟨c,j⟩ g;exact be Fin.val this,λ c j=>?_⟩⟩
    obtain⟨b,i,g⟩:=qS (((va f k o u).2 h).2 ⟨c,j⟩)
    exact⟨b,i,by simpa using g⟩
 ·have z:((a.length:F)==e)=ak:=by simpa using s
  have w:hy e a=ak:=by unfold hy;rw[z];simp
  have x:c8 e a=ak:=by unfold c8;rw[z];simp
  rw[w,x];exact⟨I,λ h=>by cases h⟩
def ek (a:F) (c b:ac):bc:=if aI a c&&c8 a b then ⟨a,bF (λ d=>b5 d b b.length) c (aH a) c.length,ae⟩ else bc.no
theorem IP (c:ac) (b:J) (e:F) (a:J) (h:a<=c.length):cH (c.set b e) a=cH c a+(if b<a then e-O c b else 0):=by
 induction a with
 | zero=>simp[cH,bx]
 | succ a g =>
  rw[jW,jW,g E,cO]
  by_cases f:b=a
  ·subst f;simp;omega
  ·by_cases d:b<a
   ·rw[a7 d,aF E,a7 E];omega
   ·rw[aF d,aF E,aF E];omega
theorem Ko (c:J->J) (d:ac) (b h:J) (j:∀g,g<h->c g<b) (a:J) (k:a<=h):aW (bF c d b a)=cH d a:=by
 have i:∀a,aW (bF c d b a)=cH (bF c d b a) b:= λ a=>by unfold aW;rw[jV];rfl
 rw[i];induction a with
 | zero =>
  show cH (bE b 0) b=0
  have:∀e,cH (bE b 0) e=0:= λ e=>by
   induction e with
   | zero=>rfl
   | succ e f=>rw[jW,f,eF];rfl
  exact this b
 | succ a f =>
  show cH ((bF c d b a).set (c a) (O (bF c d b a) (c a)+O d a)) b=_
  rw[IP _ _ _ _ (by rw[jV];omega),f E,a7 (j a E),jW];omega
theorem Bp (c:J->J) (f:ac) (d e:J) (l:∀a,a<e->c a<d) (m:∀a h,a<e->h<e->c a=c h->a=h) (b:J) (n:b<=e) (a:J) (j:a<e):O (bF c f d b) (c a)=if a<b then O f a else 0:=by
 induction b with
 | zero=>show O (bE d 0) (c a)=_;rw[eF,aF E]
 | succ b k =>
  show O ((bF c f d b).set (c b) (O (bF c f d b) (c b)+O f b)) (c a)=_
  rw[cO,jV]
  by_cases i:a=b
  ·subst i;rw[a7 ⟨rfl,l a j⟩,k E,aF E,a7 E];omega
  ·rw[aF (λ g=>i (m b a E j g.1).symm),k E];by_cases g:a<b
   ·rw[a7 g,a7 E]
   ·rw[aF g,aF E]
theorem Kp (e:ac) (c:F) (a:J) (d:∀b,b<a->c∣O e b):c∣es e a:=by
 induction a with
 | zero=>exact⟨0,by simp[es,bx]⟩
 | succ a f=>rw[ll];exact Int.dvd_coe_gcd (f λ b g=>d b E) (d a E)
theorem HJ (a:ac):a.map (· /1)=a:=ar
theorem Gt {c:F} {a:ac} (u:aI c a=ae) (d:J->J) (h:∀b,b<aH c->d b<aH c) (t:∀b g,b<aH c->g<aH c->d b=d g->b=g) (w:∀l,l<aH c->∃b,b<aH c /\ d b=l):
  aI c (bF d a (aH c) a.length)=ae:=by
 obtain⟨n,x,y,o,p,q,r⟩:=bt u;have k:∀b,b<aH c->O (bF d a (aH c) a.length) (d b)=O a b:= λ b e=>by
  rw[Bp d a (aH c) (aH c) h t _ E b e,a7 E]
 have v:aW (bF d a (aH c) a.length)=aW a:=by rw[Ko d a (aH c) a.length (λ b e=>h b E) _ aZ];rfl
 have s:bT (bF d a (aH c) a.length)=1:=by
  have j:bT (bF d a (aH c) a.length)∣bT a:=by
   refine Kp a _ _ λ f i=>?_
   rw[<- k f E];exact lm _ _ _ (by rw[jV];exact h f E)
  rw[r] at j;have m:=jm (bF d a (aH c) a.length) (bF d a (aH c) a.length).length;exact Int.eq_one_of_dvd_one m j
 simp only[aI,b9,cR];refine⟨⟨⟨⟨n,by rw[jV]⟩,(cp _ _).2 λ f i=>?_⟩,by rw[v];exact bM.2 ⟨p,q⟩⟩,s⟩;rw[jV] at i;obtain⟨b,e,rfl⟩:=w f i;show bi 0 1000000 (O _ (d b))=ae;rw[k b e];exact bM.2 (o b E)
theorem Gu {a:F} {b:ac} (c:aI a b=ae):bh a b=⟨a,b,ae⟩:=by
 obtain⟨e,f,g,h,i,j,d⟩:=bt c;unfold bh;rw[d,HJ,aF aX,a7 c]
theorem tC {b:F} {a:ac} (e:bK b=ae) (d:c8 b a=ae) (c:J):b5 c a a.length<aH b:=by
 simp only[c8,b9,cR] at d;refine qR c a b.toNat a.length (λ g f=>?_) _ aZ;have:=(cp _ _).1 d.1 g f;simp only[mw,b9] at this;have h:=bM.1 this.1;have:=cG.1 e;omega
theorem CB {b:F} {e d:ac} (g:aI b e=ae) (c:c8 b d=ae):bh b (bF (λ a=>b5 a d d.length) e (aH b) e.length)=ek b e d:=by
 obtain⟨f,_⟩:=bt g;rw[Gu (Gt g _ (λ a _=>tC f c a) (λ a h i j=>((kz f).2 c).1 a h i j) ((kz f).2 c).2)];unfold ek;rw[g,c];rfl
theorem zW (b:af) (a:J) (q:a<=1000000000):∃c,c9 prog (Instr.makeSlice 27 (M (a:F)) (M (a:F))) b=.ok (aq b.heap.size a a) c /\
  av c b.heap.size (aq b.heap.size a a) (bE a 0) /\ ap b c /\ b.heap.size<c.heap.size:=by
 obtain⟨o,i,l,m,n⟩:=info_parts ig;obtain⟨c,k,f,e⟩:=run_make_full (P:=prog) b b.heap.size 27 3 o (M 0) 1 underlying27 i l m .i64 .i64 a (by rw[n];omega) (by unfold maxLen;omega) aZ;refine⟨c,k,?_,⟨e.os,e.tape,e.output,e.size,λ p j=>e.block p j ar⟩,(fs f _ I).2⟩;have h:(madeCells (ed cz 0).cells (a*1)).toList=(bE a (0:F)).map (ed .i64):=by
  exact sh
 simp only[av,List.length_replicate];rw[<- h];exact f
theorem j1 {w:af} {X:Result ay->Prop} (a:J) (e:a<=1000000000) (c:∀b,av b w.heap.size (aq w.heap.size a a) (bE a 0)->ap w b->w.heap.size<b.heap.size->X (.ok (aq w.heap.size a a) b)):
  X (c9 prog (Instr.makeSlice 27 (M (a:F)) (M (a:F))) w):=by
 obtain⟨i,g,f,d,h⟩:=zW w a e;rw[g];exact c i f d h
structure pq (w w':af) (b g:J) (s:F) (n:J):Prop where
 row:av w' w.heap.size (aq g n n) (bE n 0)
 c0: w'.cell? (ad b 0)=Z (M s)
 c1: w'.cell? (ad b 1)=Z (aq g n n)
 ne:b≠g
 lo:w.heap.size<=b
 below:ap w w'
theorem IQ {a c:af} {f:F} {b d:J} (j:TypeId) (h:d=a.heap.size) (i:av c a.drew.heap.size (aq a.drew.heap.size b b) (bE b 0)) (g:Below a.drew.heap.size a.drew c) (e:a.drew.heap.size<c.heap.size):
  pq a (c.alloc (al #[M f,aq d b b] j)) c.heap.size d f b:=by
 subst h;refine⟨i.below (az _ _),ar,ar,?_,h3 e,(au (bI a) g).alloc (h3 e) _⟩;have:a.heap.size<c.heap.size:=e;omega
theorem HK {a c:af} {d:F} {b f:J} (o:f=a.heap.size+1) {W:af} (l:W.heap.size=a.heap.size+1) (m:ap a W) (i:av c W.heap.size (aq W.heap.size b b) (bE b 0)) (n:ap W c)
  (e:∃r,c.cell? (ad a.heap.size 0)=Z r) (g:∃r,c.cell? (ad a.heap.size 1)=Z r):
  pq a ((c.setCell (ad a.heap.size 0) (M d)).setCell (ad a.heap.size 1) (aq f b b)) a.heap.size f d b:=by
 subst o;obtain⟨p,e⟩:=e;obtain⟨q,g⟩:=g;rw[l] at i;have j:((c.setCell (ad a.heap.size 0) (M d)).setCell (ad a.heap.size 1) (aq (a.heap.size+1) b b)).cell? (ad a.heap.size 0)=Z (M d):=by simp[go_sem,e]
 have k:((c.setCell (ad a.heap.size 0) (M d)).setCell (ad a.heap.size 1) (aq (a.heap.size+1) b b)).cell? (ad a.heap.size 1)=Z (aq (a.heap.size+1) b b):=by simp[go_sem,e,g]
 exact⟨((i.setBelow (gB _) _).setBelow (gB _) _).mono E,j,k,E,bL _,((m.trans (n.mono E)).setCell aZ _).setCell aZ _⟩
theorem EW {id:J} {k:bg bD} {d:Act} {f:af} {i:Exit->Act->af->Prop} (h:Act->J->J->Act) (l:F) (j:J)
  (e:(Code.region id k ae).wp prog (λ p g c=>match p with | .normal=>∃a b,g=h d a b /\ pq f c a b l j | _=>False) d f)
  (n:∀a b c,pq f c a b l j->i .normal (h d a b) c):(Code.region id k ae).wp prog i d f :=
 Code.wp_mono (λ m g c e=>by
  cases m with
  | normal=>obtain⟨a,b,rfl,o⟩:=e;exact n a b c o
  | _=>exact e.elim) e
theorem nv (c:F) (z:aG) (e S:J) (b:ac) (v:af) (m:an v z e b) (t:bK c=ae):
  aY prog 274 #[M c,aa z e S] v λ k o=>k=aV (aw (hy c b)) /\ v=o:=by
 have Z8:=m.cap;have r:=ab m.len;have Z6:1<=c /\ c<=4:=by rcases cG.1 t with j | j | j | j<;>omega
 cases i:bq (λ a=>bi 0 (c-1) (O b a)) b.length
 ·obtain⟨f,W,A⟩:=ii i;have p:U (hy c b=ak):=by show hy c b=ak;unfold hy;rw[i];rfl
  rw[p.o];rw[r.o] at W;have s:=ab A;clear A i;go_enter func274,ntmps274;go_wp2;go_loop [5,7,10] (λ u _ g=>∃a:J,a<=f /\ g=M a /\ u=M (fO b a) /\ fO b a<2^4) (λ _ _ g=>e-(intOf g).toNat)
  case atStart=>exact⟨0,E,I,I,Nat.two_pow_pos 4⟩
  case round =>
   obtain⟨a,V,rfl,rfl,n⟩:=hrel;have l:a<e:=E;obtain⟨R,Y,rfl,T,_,K⟩:=m.at bA l;cases d:bi 0 (c-1) (O b a)
   ·rcases j0.1 d with j | j
    ·exact h8
    ·have Z3:c<=O b a:=E;have Z9:¬O b a<0:=E;exact h8
   ·have D:=bM.1 d;have G:0<=O b a:=E;have H:O b a<c:=E;refine pV ?_;intro q;exact w4
 ·have Q:=ab ((cp _ _).1 i);have p:U (hy c b=(((e:F)==c)&&((fO b e:F)==(aH c:F)-1))):=by show hy c b=_;unfold hy;rw[i,eo,r.o]
  rw[p.o];clear i;go_enter func274,ntmps274;go_wp2;go_loop [5,7,10] (λ u _ g=>∃a:J,a<=e /\ g=M a /\ u=M (fO b a) /\ fO b a<2^4) (λ _ _ g=>e-(intOf g).toNat)
  case atStart=>exact⟨0,E,I,I,Nat.two_pow_pos 4⟩
  case round =>
   obtain⟨a,V,rfl,rfl,n⟩:=hrel;by_cases l:a<e
   ·obtain⟨R,Y,rfl,T,_,K⟩:=m.at bA l;have d:=Q.o a (by rw[r.o];exact l);have D:=bM.1 d;have G:0<=O b a:=E;have H:O b a<c:=E;exact w4
   ·have C:a=e:=E;have y:=ab C;clear C;cases B:((e:F)==c)
    ·have x:¬(e:F)=c:=by simpa using B
     go_wp2_with (first | (go_at_call 224;refine(me _ _ t).mono ?_;rintro k o ⟨rfl,rfl⟩));go_ret;exact⟨ct ar,I⟩
    ·have x:(e:F)=c:=by simpa using B
     go_wp2_with (first | (go_at_call 224;refine(me _ _ t).mono ?_;rintro k o ⟨rfl,rfl⟩));all_goals go_ret
     have X:(a:F)=c:=by rw[y.o];exact x
     all_goals exact⟨ct (by rw[<- y.o];simp[X]),I⟩
theorem nw (d:F) (s:aG) (f K:J) (b:ac) (r:af) (l:an r s f b) (S:bK d=ae):
  aY prog 211 #[M d,aa s f K] r λ c e=>c=aV (aw (c8 d b)) /\ r=e:=by
 have V:=l.cap;have o:=ab l.len;have X:1<=d /\ d<=4:=by rcases cG.1 S with p | p | p | p<;>omega
 cases i:bq (mw d b) b.length
 ·obtain⟨v,R,t⟩:=ii i;have n:U (c8 d b=ak):=by show c8 d b=ak;unfold c8;rw[i];rfl
  rw[n.o];rw[o.o] at R;have G:=ab t;clear t i;go_enter func211,ntmps211;go_wp2;go_loop [5,6] (λ q g=>∃a:J,a<=v /\ g=M a /\ q=M (fO b a) /\ fO b a<2^4) (λ _ g=>f-(intOf g).toNat)
  case atStart=>exact⟨0,E,I,I,Nat.two_pow_pos 4⟩
  case round =>
   obtain⟨a,Q,rfl,rfl,B⟩:=hrel;have k:a<f:=E;obtain⟨H,T,rfl,L,_,A⟩:=l.at bA k;cases j:bi 0 (d-1) (O b a)
   ·exact sq
   ·have x:=bM.1 j;have y:0<=O b a:=E;have z:O b a<d:=E;cases m:bZ (fO b a) (O b a).toNat
    ·have W:a≠v:=by rintro rfl;have:=G.o;unfold mw at this;rw[j,m] at this;cases this
     exact vQ
    ·go_wp2_with (first | (go_at_call 113;refine(fM _ _ _ _).mono ?_;rintro c e ⟨rfl,rfl⟩) | (go_at_call 66;refine(lk _ _ _ E E E).mono ?_;rintro c e ⟨rfl,rfl⟩));exact mQ
 ·have D:=ab ((cp _ _).1 i);have n:U (c8 d b=((f:F)==d)):=by show c8 d b=_;unfold c8;rw[i,eo,o.o]
  rw[n.o];clear i;go_enter func211,ntmps211;go_wp2;go_loop [5,6] (λ q g=>∃a:J,a<=f /\ g=M a /\ q=M (fO b a) /\ fO b a<2^4) (λ _ g=>f-(intOf g).toNat)
  case atStart=>exact⟨0,E,I,I,Nat.two_pow_pos 4⟩
  case round =>
   obtain⟨a,Q,rfl,rfl,B⟩:=hrel;by_cases k:a<f
   ·obtain⟨H,T,rfl,L,_,A⟩:=l.at bA k;have u:=D.o a (by rw[o.o];exact k);simp only[mw,b9,Bool.not_eq_true'] at u;obtain⟨j,m⟩:=u;have x:=bM.1 j;have y:0<=O b a:=E;have z:O b a<d:=E;exact vQ
   ·exact vU
theorem Gc (c:bg ay) (a:af):c9 prog (b0 275 c) a=.ok (.enter 275 c) a:=by
 have g:(Tryz.f275.name== "runtime.NumGoroutine")=ak:=ah;have b:Tryz.f275.body.isNone=ak:=ah;have d:¬Tryz.f275.name= "runtime.NumGoroutine" :=by simpa using g
 have e:¬Tryz.f275.body=aj:=by intro f;rw[f] at b;simp at b
 simp only[b0,eC,run_program,ex,func275,cR,eB,aF d,aF e,ey]
theorem oT {c:F} {b:ac} (f:bK c=ae) (d:c8 c b=ae):(b.length:F)=c /\ ∀a,a<b.length->0<=O b a /\ O b a<=c-1:=by
 simp only[c8,b9,cR] at d;refine⟨d.2,λ a e=>?_⟩;have:=(cp _ _).1 d.1 a e;simp only[mw,b9] at this;exact bM.1 this.1
theorem He (g:F) (t v:aG) (r y l z:J) (m j:ac) (a:af) (A:an a t r m) (x:an a v l j):
  bp 164 #[am g t r y,aa v l z] a (ek g m j):=by
 have D:=A.below (w':=((a.alloc (al #[M g,aa t r y] 29)).alloc (al #[aa v l z] 27)).alloc (al #[M 0,aa aj 0 0] 29)) (((az a _).alloc ar _).alloc bO _);cases H:aI g m
 ·have s:U (ek g m j=bc.no):=by simp[U,ek,H]
  rw[s.o];go_enter func164,ntmps164;go_wp2_with fail;refine mY ?_;intro u i c d e f b;clear i;go_wp2;exact wX
 ·obtain⟨o,ZZ,X,N,_,_,_⟩:=bt H;have T:=ab N;clear N;cases q:c8 g j
  ·have s:U (ek g m j=bc.no):=by show ek g m j=bc.no;unfold ek;rw[q];simp
   rw[s.o];go_enter func164,ntmps164;go_wp2_with fail;refine mY ?_;intro u i c d e f b;have Q:=aS i (a.heap.size+1) 0 (aa v l z);have ZR:=aS i a.heap.size 0 (M g);have B:=x.below b;clear i;go_wp2_with (first | (go_at_call 274;refine(nv _ _ _ _ _ _ B o).mono ?_;rw[(kz o).1,q];rintro n C ⟨rfl,rfl⟩));exact wX
  ·have s:U (ek g m j=bh g (bF (λ k=>b5 k j l) m (aH g) r)):=by
    show ek g m j=_;rw[<- CB H q,x.len,A.len]
   rw[s.o]
   obtain⟨Z9,S⟩:=oT o q
   have ZW:g<=4 /\ 1<=g:=by
    have Z3:=cG.1 o;omega
   have ZY:l<=4:=by have:=x.len;omega
   have P:=ab x.len
   have K:=ab A.len
   have W:U (∀p,p<l->0<=O j p /\ O j p<=28):= λ p G=>by have:=S p (by rw[P.o];exact G);omega
   have V:U (∀k,b5 k j l<aH g):= λ k=>by rw[<- P.o];exact tC o q k
   clear S Z9
   go_enter func164,ntmps164
   go_wp2_with fail
   refine(cn _ _ _ _ _ _ D).mono ?_;rintro n u ⟨rfl,i⟩
   obtain⟨c,d,e,f⟩:=cj (a.heap.size+1+1) i ar
   have b:ap a u:=(((az a _).alloc ar _).alloc bO _).trans (i.mono bO)
   have Q:=aS i (a.heap.size+1) 0 (aa v l z)
   have ZR:=aS i a.heap.size 0 (M g)
   have ZX:=aS i a.heap.size 1 (aa t r y)
   have B:=x.below b
   have Z7:=A.below b
   have ZV:a.heap.size+1+1<u.heap.size:=b6 c
   clear i
   go_wp2_with (first | (go_at_call 274;refine(nv _ _ _ _ _ _ B o).mono ?_;rw[(kz o).1,q];rintro n C ⟨rfl,rfl⟩) | (go_at_call 227;fail))
   refine(oS g g t r y m 275 #[br (a.heap.size+1)] (λ k=>b5 k j l) u Z7 (by rw[<- K.o];exact X) o Gc (λ p G=>T.o p (by rw[K.o];exact G)) (λ k _=>V.o k) (λ k C Z1 L=>?_)).mono ?_
   ·exact(Gr k _ _ _ _ _ C (by have:=K.o;omega) (ag L Q) (B.below L) E W.o).mono λ n Z6 ⟨Y,Z8⟩=>⟨Y,lb Z8⟩
   rintro n ZS ⟨⟨ZT,rfl,R⟩,w⟩
   obtain⟨Z5,ZU,Z4,rfl,Z0⟩:=R.ints
   replace e:=aB w c e
   replace f:=aB w d f
   replace c:=ag w c
   replace d:=ag w d
   have Z2:=au b w
   go_wp2
   refine aK (by simp[aJ,results164,go_sem,c,d]) I ⟨⟨_,I,((R.setBelow (by simp;omega) _).setBelow (by simp;omega) _).mono E⟩,?_⟩
   exact bB
end Go.Proofs.YtkjnhlpccgjfhaaGreatDoor
