/- A part of the proof: lemmas (my texts, shortened by a program of mine). -/
import Derived.Test.YtkjnhlpccgjfhaaGreatDoorC24
set_option linter.all false
set_option maxRecDepth 100000
set_option maxHeartbeats 4000000
namespace Go.Proofs.YtkjnhlpccgjfhaaGreatDoor
open Go.RowKit
open Go.Proofs.Tryz
open Bool renaming and_eq_true->b9,false->ak,true->ae
open _root_.ByteArray renaming mk->aN,size->eX,size_append->cZ
open Go renaming Calls->aY,Value->ay,World->af,bodyPost_ret->aK,callFunc->b0,results->aJ,wpQuiet_nil->dn
open Go.Ending renaming returned->aV
open Go.IntWalk renaming i64_in->bV
open Go.Obj renaming cells->al
open Go.Result renaming andThen_ok->ex
open Go.Sem renaming run->c9,run_bind->eC,run_pure->ey
open Go.Value renaming agg->ba,bool->aw,slice->aa,string->aE,tuple->aL
open Go.World renaming ownsRow_lit->fF
open Int renaming le_refl->fE,toNat_natCast->cI
open Nat renaming le_refl->bL
open Option renaming isNone_iff_eq_none->eB,none->aj,some->Z
open _root_ renaming Array->bg,Bool->a8,Int->F,Nat->J,beq_iff_eq->cR,if_neg->aF,if_pos->a7,rfl->I
variable {p q:Prop}
theorem EL (g:F) (c:J) (f:aG) (B n:J) (a:ac) (e:af) (A:an e f B a) (s:aI g a=ae) (Y:c<a.length):
  aC 235 #[am g f B n,M c] e (aL #[ba #[M (bv (a9 (bm (bU c)) a a.length) (aW a)).num,M (bv (a9 (bm (bU c)) a a.length) (aW a)).den],aw (bv (a9 (bm (bU c)) a a.length) (aW a)).ok]):=by
 obtain⟨P,Z8,x,R,Z4,Z3,_⟩:=bt s;have Z0:=b8 P;have N:bi 0 ((aH g:F)-1) c=ae:=bM.2 E;obtain rfl:B=a.length:=A.len.symm;have L:=lv (bU c) s;obtain⟨d,y⟩:∃d,a.length=d:=⟨_,I⟩;rw[y] at A x Y L ⊢;have H:U (∀ZY,ZY<d->0<=O a ZY /\ O a ZY<=1000000):=by show ∀ZY,ZY<d->_;rw[<- y];exact R
 have ZX:c<16:=E;obtain⟨l,q⟩:∃l,a9 (bm (bU c)) a d=l:=⟨_,I⟩;obtain⟨m,r⟩:∃m,aW a=m:=⟨_,I⟩;rw[q] at L;rw[q,r];rw[r] at Z4 Z3;have C:U (∀b,an b f d a->aC 253 #[am g f d n,M c] b (M l)):= λ b w=>by rw[<- q];exact nh _ c _ _ _ a b w ZX x H.o
 have D:U (∀b,an b f d a->aC 157 #[am g f d n] b (M m)):= λ b w=>by rw[<- r];exact gi _ _ _ _ a b w (λ ZY Z9=>by have:=H.o ZY Z9;omega) x
 obtain⟨i,z⟩:∃Z5,bv l m=Z5:=⟨_,I⟩;rw[z];have G:U (∀b,aC 156 #[M l,M m] b (bz i.num i.den i.ok)):= λ b=>by rw[<- z];exact mc _ _ b E E E E E
 have K:Below e.heap.size e ((e.alloc (al #[M g,aa f d n] 29)).alloc (al #[M 0,M 0] 55)):=aD;have Q:=A.below K;have T:=ab s;have S:=ab N;clear Z8 R q r y z N s;go_enter func235,ntmps235;go_wp2_with fail;refine(cn _ _ _ _ a _ Q).mono ?_;rw[T.o];rintro V Z2 ⟨rfl,j⟩;have Z7:=aS j e.heap.size 0 (M g);have Z6:=aS j e.heap.size 1 (aa f d n);obtain⟨o,p,u,v⟩:=cj (e.heap.size+1) j ar;have t:=Q.below j;have X:ap e Z2:=dz j;clear j K;go_wp2_with fail;refine(fh g c _ P).mono ?_;rw[S.o];rintro V b ⟨rfl,rfl⟩;go_wp2_with fail;refine ei 8 ah ah (λ _ _ _ _ _ W=>W) ?_;simp only[List.take_succ_cons,List.take_zero,List.drop_succ_cons,List.drop_zero];repeat (first | go_big_quiet_step ((first | (go_at_call 253;(with_reducible exact aQ (C.o _ (t.below (aM _ _))))) | (go_at_call 157;(with_reducible exact aQ (D.o _ (t.below (aM _ _))))) | (go_at_call 156;(with_reducible exact aQ (G.o _))))) | quiet_step ((first | (go_at_call 253;(with_reducible exact aQ (C.o _ (t.below (aM _ _))))) | (go_at_call 157;(with_reducible exact aQ (D.o _ (t.below (aM _ _))))) | (go_at_call 156;(with_reducible exact aQ (G.o _))))))
 refine dn ?_;refine dg ?_;intro ZZ k;replace u:=aB k o u;replace v:=aB k p v;replace o:=ag k o;replace p:=ag k p;have Z1:=au X k;clear k Z7 Z6;go_wp2;refine aK (v:=bz i.num i.den i.ok) (by simp[aJ,results235,go_sem,o,p,u,v]) I ⟨?_,?_⟩
 ·rfl
 ·exact aD
def er (d:ac) (b:J):F:=bx (λ a c=>c+O d a*(cw a:F)) 0 b
theorem B1 {b:ac} {c:J} (k:c<=16) (f:∀a,a<c->0<=O b a /\ O b a<=1000000):∀a,a<=c->0<=er b a /\ er b a<=4000000*(a:F):=by
 intro a;induction a with
 | zero=>intro _;exact⟨fE _,by simp[er,bx]⟩
 | succ a g =>
  intro j
  have h:=g E
  have d:=f a E
  have i:=nO a E
  have e:er b (a+1)=er b a+O b a*(cw a:F):=rfl
  have l:0<=O b a*(cw a:F):=Int.mul_nonneg d.1 E
  have m:O b a*(cw a:F)<=4000000:=by
   have:=Int.mul_le_mul d.2 (show (cw a:F)<=4 from E) E E;omega
  rw[e];omega
theorem II (p:F) (k:aG) (L r:J) (b:ac) (j:af) (t:an j k L b) (G:aI p b=ae):
  aC 237 #[am p k L r] j (aL #[ba #[M (bv (er b b.length) (aW b)).num,M (bv (er b b.length) (aW b)).den],aw (bv (er b b.length) (aW b)).ok]):=by
 obtain⟨Z7,Z8,z,T,Z2,Z1,_⟩:=bt G;have ZV:=b8 Z7;obtain rfl:L=b.length:=t.len.symm;obtain⟨g,B⟩:∃g,b.length=g:=⟨_,I⟩;rw[B] at t z ⊢;have w:U (∀a,a<g->0<=O b a /\ O b a<=1000000):=by show ∀a,a<g->_;rw[<- B];exact T
 have P:=ab (B1 z w.o);have Z9:=P.o g aZ;obtain⟨q,C⟩:∃q,aW b=q:=⟨_,I⟩;obtain⟨m,s⟩:∃Z3,bv (er b g) (aW b)=Z3:=⟨_,I⟩;rw[s];rw[C] at s Z2 Z1;have V:U (∀i,an i k g b->aC 157 #[am p k g r] i (M q)):= λ i Y=>by rw[<- C];exact gi _ _ _ _ b i Y (λ a D=>by have:=w.o a D;omega) z
 have W:U (∀i,aC 156 #[M (er b g),M q] i (bz m.num m.den m.ok)):= λ i=>by rw[<- s];exact mc _ _ i E E E E E
 have Q:Below j.heap.size j ((j.alloc (al #[M p,aa k g r] 29)).alloc (al #[M 0,M 0] 55)):=aD;have H:=t.below Q;have X:=ab G;clear Z8 T C B s G Z9;go_enter func237,ntmps237;go_wp2_with fail;refine(cn _ _ _ _ b _ H).mono ?_;rw[X.o];rintro y ZZ ⟨rfl,n⟩;have Z5:=aS n j.heap.size 0 (M p);have Z4:=aS n j.heap.size 1 (aa k g r);obtain⟨c,d,e,f⟩:=cj (j.heap.size+1) n ar;have Z6:=H.below n;have l:ap j ZZ:=dz n;clear n Q H;go_wp2;go_loop [4,5,6,14] (λ Z0 _ _ K=>∃a:J,a<=g /\ K=M a /\ Z0=M (er b a)) (λ _ _ _ K=>g-(intOf K).toNat)
 case atStart=>exact⟨0,E,I,I⟩
 case round =>
  obtain⟨a,D,rfl,rfl⟩:=hrel;by_cases R:a<g
  ·obtain⟨ZX,ZN,rfl,ZU,ZY,ZT⟩:=t.at l R;have S:=w.o a R;have ZS:=P.o a D;have Z:=nO a E;have u:U (er b (a+1)=er b a+O b a*(cw a:F)):=rfl;have ZR:(a:F)<=16:=E;obtain⟨o,N⟩:∃o:J,U (cw a=o):=⟨_,I⟩;rw[N.o] at Z u;have ZQ:0<=O b a*(o:F):=Int.mul_nonneg S.1 E;have ZP:O b a*(o:F)<=4000000:=by
    have:=Int.mul_le_mul S.2 (show (o:F)<=4 from E) E E;omega
   have ZO:IntKind.u64.wrap (a:F)=(a:F):=by rw[IntWalk.u64_in];omega
   go_wp2_with (go_at_call 302;refine(Ae _ _ E).mono ?_;rw[N.o];rintro y i ⟨rfl,rfl⟩);exact wt
  ·obtain rfl:a=g:=E;go_wp2_with fail;refine(V.o _ Z6).mono ?_;rintro y ZM ⟨rfl,v⟩;refine hF ?_;intro e f c d A;clear v Z5 Z4;go_wp2_with fail;refine(W.o _).mono ?_;rintro y ZL ⟨rfl,x⟩;refine l3 ?_;intro e f c d;have ZW:=au A x;clear x;go_wp2;refine aK (v:=bz m.num m.den m.ok) (by simp[aJ,results237,go_sem,c,d,e,f]) I ⟨?_,?_⟩
   ·rfl
   ·exact aD
def fS (c:F) (a:ac):ac:=cQ (λ b=>a9 (bm (bU (2^b))) a a.length) c.toNat
theorem HL (n:F) (g:aG) (B p:J) (i:ac) (a:af) (v:an a g B i) (S:aI n i=ae):
  db 310 #[am n g B p] a (fS n i):=by
 obtain⟨x,ZZ,P,X,ZV,ZU,_⟩:=bt S;have Z0:=b8 x;have ZP:1<=n /\ n<=4:=by rcases cG.1 x with o | o | o | o<;>omega
 obtain⟨c,rfl⟩:∃c:J,n=(c:F):=⟨n.toNat,E⟩;obtain rfl:B=i.length:=v.len.symm;obtain⟨e,q⟩:∃e,i.length=e:=⟨_,I⟩;rw[q] at v P;have Z4:U (∀b,b<e->0<=O i b /\ O i b<=1000000):=by show ∀b,b<e->_;rw[<- q];exact X
 obtain⟨u,H⟩:∃u:J->F,U ((λ b=>a9 (bm (bU (2^b))) i e)=u):=⟨_,I⟩;have Z6:U (∀b,a9 (bm (bU (2^b))) i e=u b):= λ b=>by rw[<- H.o]
 have Y:U (fS (c:F) i=cQ u c):=by rw[U,<- H.o,<- q];rfl
 rw[Y.o,q];clear ZZ X q S x Z0 ZV ZU;go_enter func310,ntmps310;go_wp2;obtain⟨j,m⟩:∃Z3,(a.alloc (al #[M (c:F),aa g e p] 29)).alloc (al #[] 3)=Z3:=⟨_,I⟩;have s: j.cell? (ad a.heap.size 0)=Z (M (c:F)):=by rw[<- m];simp
 have t: j.cell? (ad a.heap.size 1)=Z (aa g e p):=by rw[<- m];simp
 have ZY:av j (a.heap.size+1) (aq (a.heap.size+1) 0 0) (cQ u 0):=by
  exact x7
 have l:ap a j:=by rw[<- m];exact aD
 have ZO:a.heap.size+1<j.heap.size:=by rw[<- m];simp
 rw[m];clear m;go_loopw [3,4,8] (λ ZW _ A wr=>∃(b:J) (D:ay),b<=c /\ A=M b /\ ZW=D /\ av wr (a.heap.size+1) D (cQ u b) /\ Below (a.heap.size+1) j wr /\ j.heap.size<=wr.heap.size) (λ _ _ A _=>c-(intOf A).toNat)
 case atStart=>exact⟨0,_,E,I,I,ZY,Below.refl _ _,bL _⟩
 case round =>
  obtain⟨b,D,ZT,rfl,rfl,G,y,ZN⟩:=hrel;refine iy ?_;intro f w z;by_cases ZQ:b<c
  ·have W:=ab (gn u b);have ZS:(0:F)<=(b:F):=E;have ZR:(b:F)<(c:F):=E;have ZX:=gO b E;have Q:2^b<16:=by
    exact xm
   obtain⟨r,N⟩:∃r:J,U (2^b=r):=⟨_,I⟩;have Z5:U (a9 (bm (bU r)) i e=u b):=by rw[<- N.o];exact Z6.o b
   rw[N.o] at ZX Q;have K:U (∀d,an d g e i->aC 253 #[am (c:F) g e p,M (r:F)] d (M (u b))):= λ d Z1=>by rw[<- Z5.o];exact nh _ r _ _ _ i d Z1 Q P Z4.o
   go_wp2;refine l7 5 _ _ ah ah I I I (λ _ _ _ _ _ o=>o) ⟨_,I⟩ ?_;refine dY ?_;repeat (first | go_big_quiet_step ((go_at_call 253;(with_reducible exact aQ (K.o _ ((v.below f).below (aM _ _)))))) | quiet_step ((go_at_call 253;(with_reducible exact aQ (K.o _ ((v.below f).below (aM _ _)))))))
   refine et ?_;intro L k;have V:=G.below k;exact xl
  ·obtain rfl:b=c:=E;go_wp2;go_ret;exact⟨⟨_,I,G.mono E⟩,f⟩
theorem HM (a:F) (e:aG) (g i:J) (c:ac) (b:af) (k:an b e g c) (j:aI a c=ae):
  db 238 #[am a e g i] b (fS a c):=by
 have t:=ab j;clear j;go_enter func238,ntmps238;go_wp2_with fail;refine(cn _ _ _ _ c _ (k.below aD)).mono ?_;rw[t.o];rintro l o ⟨rfl,d⟩;have p:=aS d b.heap.size 0 (M a);have q:=aS d b.heap.size 1 (aa e g i);have f:ap b o:=bJ d;clear d;go_wp2_with fail;refine(HL a _ _ _ c _ (k.below f) t.o).mono ?_;rintro l s ⟨⟨r,rfl,n⟩,m⟩;go_wp2;go_ret;exact⟨⟨_,I,n.mono (by have:=f.size;omega)⟩,au f m⟩
def bG (a b:F):ax:=if bH a b then (if b=1 then Lib.itoa a else Lib.itoa a++47::Lib.itoa b) else []
theorem oN {a b:F} (c:bH a b=ae): -1000000000<=a /\ a<=1000000000 /\ 1<=b /\ b<=1000000000:=by
 unfold bH at c;simp only[b9,bM] at c;omega
theorem ld {x:F} (a: -1000000000<=x) (b:x<=1000000000):(Lib.itoa x).length<=30:=by have:=Lib.itoa_length_le x E E;omega
theorem q4 (b a:F):(bG b a).length<=70:=by
 unfold bG;split
 ·rename_i c;obtain⟨d,e,i,f⟩:=oN c;have g:=ld d e;have h:=ld (x:=a) E f;split
  ·omega
  ·simp;omega
 ·simp
theorem ti (b c:F) (a:af) (s:hC a):
  aC 152 #[ba #[M b,M c]] a (aE (ai (bG b c))):=by
 cases e:bH b c
 ·have g:U (bG b c=[]):=by rw[U];unfold bG;rw[e];rfl
  rw[g.o];go_enter func152,ntmps152;go_wp2_with fail;refine(l9 _ _ _).mono ?_;rw[e];rintro j k ⟨rfl,i⟩;exact sr
 ·obtain⟨z,A,G,B⟩:=oN e;have x:=ld z A;have y:=ld (x:=c) E B;by_cases i:c=1
  ·have g:U (bG b c=Lib.itoa b):=by rw[U];unfold bG;rw[e,a7 rfl,a7 i]
   rw[g.o];subst i;have r:=ab e;clear e;go_enter func152,ntmps152;go_wp2_with fail;refine(l9 _ _ _).mono ?_;rw[r.o];rintro j k ⟨rfl,i⟩;have m:=aS i a.heap.size 0 (M b);have n:=aS i a.heap.size 1 (M 1);refine ic ?_;intro l;clear i;go_wp2_with fail;refine(kC b E E _ (s.below l)).mono ?_;rintro j D ⟨rfl,d⟩;replace m:=ag d m;replace n:=ag d n;have u:=au l d;clear d;exact lV
  ·have H:=beq_eq_false_iff_ne.2 i;have J:=bne_iff_ne.2 i;obtain⟨o,p⟩:∃o,Lib.itoa b=o:=⟨_,I⟩;obtain⟨f,q⟩:∃f,Lib.itoa c=f:=⟨_,I⟩;have g:U (ai (bG b c)=ai o++(aN #[47]++ai f)):=by
    rw[U];unfold bG;rw[e,a7 rfl,aF i,p,q,show aN #[47]=ai [47] from I,dd,dd];rfl
   rw[g.o];rw[p] at x;rw[q] at y;have K:¬9223372036854775807<(aN #[47]).size +(ai f).size:=by rw[bs];simp[eX];omega
   have L:¬9223372036854775807<(ai o).size +(aN #[47]++ai f).size:=by rw[cZ,bs,bs];simp[eX];omega
   have r:=ab e;have v:=ab p;have w:=ab q;clear e p q;go_enter func152,ntmps152;go_wp2_with fail;refine(l9 _ _ _).mono ?_;rw[r.o];rintro j k ⟨rfl,i⟩;have m:=aS i a.heap.size 0 (M b);have n:=aS i a.heap.size 1 (M c);refine ic ?_;intro l;clear i;go_wp2_with fail;refine(kC b E E _ (s.below l)).mono ?_;rw[v.o];rintro j D ⟨rfl,d⟩;replace m:=ag d m;replace n:=ag d n;have u:=au l d;clear d;go_wp2_with fail;refine(kC c E E _ (s.below u)).mono ?_;rw[w.o];rintro j N ⟨rfl,t⟩;have C:=au u t;clear t;go_wp2;go_ret;exact⟨I,C⟩
def cM (a:bb):ax:=if a.ok then bG a.num a.den else [110,111]
theorem kw (a:bb):(cM a).length<=70:=by
 unfold cM;split
 ·exact q4 _ _
 ·simp
theorem zv (a:bb) (d:af) (f:hC d):
  aC 57 #[ba #[M a.num,M a.den],aw a.ok] d (aE (ai (cM a))):=by
 cases b:a.ok
 ·have c:U (ai (cM a)=aN #[110,111]):=by rw[U];unfold cM;rw[b];rfl
  rw[c.o];clear b;go_enter func57,ntmps57;go_wp2;go_ret;exact⟨I,aD⟩
 ·have c:U (cM a=bG a.num a.den):=by rw[U];unfold cM;rw[b];rfl
  rw[c.o];clear b;go_enter func57,ntmps57;go_wp2_with fail;refine(ti _ _ _ (f.below aD)).mono ?_;rintro g i ⟨rfl,e⟩;go_wp2;go_ret;exact⟨I,bJ e⟩
def fe (a:J) (b:J):a8:=decide (a&&&b=a)
theorem H5 (a b d:J) (c:af) (k:a<16) (i:b<16) (j: c.cell? (ad d 0)=Z (M a)):
  aY prog 255 #[M b,br d] c λ f e=>f=aV (aw (fe a b)) /\ c=e:=by
 have g:=tS ⟨b,i⟩ ⟨a,k⟩;go_enter func255,ntmps255;go_wp2;go_ret;exact⟨ct (by simp[fe,g]),I⟩
theorem HN (c:bg ay) (a:af):c9 prog (b0 255 c) a=.ok (.enter 255 c) a:=by
 have g:(Tryz.f255.name== "runtime.NumGoroutine")=ak:=ah;have b:Tryz.f255.body.isNone=ak:=ah;have d:¬Tryz.f255.name= "runtime.NumGoroutine" :=by simpa using g
 have e:¬Tryz.f255.body=aj:=by intro f;rw[f] at b;simp at b
 simp only[b0,eC,run_program,ex,func255,cR,eB,aF d,aF e,ey]
theorem L2 (c:bg ay) (a:af):c9 prog (b0 146 c) a=.ok (.enter 146 c) a:=by
 have g:(Tryz.f146.name== "runtime.NumGoroutine")=ak:=ah;have b:Tryz.f146.body.isNone=ak:=ah;have d:¬Tryz.f146.name= "runtime.NumGoroutine" :=by simpa using g
 have e:¬Tryz.f146.body=aj:=by intro f;rw[f] at b;simp at b
 simp only[b0,eC,run_program,ex,func146,cR,eB,aF d,aF e,ey]
theorem Gv (d:F) (b:J) (L:aG) (c i:J) (f:ac) (e:af) (k:an e L c f) (j:aI d f=ae) (A:b<aH d):
  aC 146 #[am d L c i,M b] e (M (a9 (bm (fe b)) f c)):=by
 obtain⟨o,v,s,a,_⟩:=bt j;have D:=k.len;have z:=b8 o;have u:bi 0 ((aH d:F)-1) b=ae:=bM.2 E;have q:U (∀g,g<c->0<=O f g /\ O f g<=1000000):= λ g B=>a g E
 have w:c<=16:=E;have t:b<16:=E;have p:=ab j;clear a v s j;go_enter func146,ntmps146;go_wp2_with fail;refine(cn _ _ _ _ f _ (k.below aD)).mono ?_;rw[p.o];rintro m y ⟨rfl,a⟩;have G:=aS a e.heap.size 0 (M d);have H:=aS a e.heap.size 1 (aa L c i);have x:=aS a (e.heap.size+1) 0 (M b);have n:ap e y:=bJ a;clear a;go_wp2_with fail;refine(fh d b _ o).mono ?_;rw[u];rintro m l ⟨rfl,rfl⟩;go_wp2_with fail;refine(tQ d L c i f 255 _ (fe b) _ (k.below n) HN ?_ w q.o).mono ?_
 ·intro r l a C;exact H5 b r (e.heap.size+1) l t E (ag a x)
 rintro m K ⟨rfl,a⟩;go_wp2;go_ret;exact⟨I,au n a⟩
def u4 (a:ac):ac:=cQ (λ b=>a9 (bm (fe b)) a a.length) a.length
theorem FE (p:F) (r:aG) (O H:J) (o:ac) (a:af) (A:an a r O o) (L:aI p o=ae):
  db 52 #[am p r O H,aE (aN #[99,111,109,109,111,110])] a (u4 o):=by
 obtain⟨Z1,Z4,Z5,Z0,ZX,ZW,_⟩:=bt L;obtain rfl:O=o.length:=A.len.symm;obtain⟨c,u⟩:∃c,o.length=c:=⟨_,I⟩;rw[u] at A Z5;have Z8:U (c=aH p):=by show c=aH p;omega
 obtain⟨g,Q⟩:∃g:J->F,U ((λ Z6=>a9 (bm (fe Z6)) o c)=g):=⟨_,I⟩;have Z:U (∀b,a9 (bm (fe b)) o c=g b):= λ b=>by rw[<- Q.o]
 have Y:U (u4 o=cQ g c):=by rw[U,<- Q.o,<- u];rfl
 rw[Y.o,u];have S:=ab L;clear Z4 Z0 u L Z1 ZX ZW;have ZV:=L2;go_enter func52,ntmps52;go_wp2_with fail;refine(cn _ _ _ _ o _ (A.below aD)).mono ?_;rw[S.o];rintro q i ⟨rfl,x⟩;have K:=aS x a.heap.size 0 (M p);have W:=aS x a.heap.size 1 (aa r c H);have X:ap a i:=bJ x;have ZZ:a.heap.size<i.heap.size:=b6 K;clear x;go_wp2;obtain⟨j,n⟩:∃Z7,i.alloc (al #[] 3)=Z7:=⟨_,I⟩;have v:ap i j:=by rw[<- n];exact az _ _
 have s:=ag v K;have t:=ag v W;obtain⟨e,m⟩:∃e,i.heap.size=e:=⟨_,I⟩;have Z2:av j e (aq e 0 0) (cQ g 0):=by
  exact pw
 have l:=au X v;have ZQ:e<j.heap.size:=by rw[<- n,<- m];simp
 rw[n,m];rw[m] at ZZ;clear n v K W m X;go_loopw [6,7,24] (λ ZY _ N wr=>∃(b:J) (P:ay),b<=c /\ N=M b /\ ZY=P /\ av wr e P (cQ g b) /\ Below e j wr /\ j.heap.size<=wr.heap.size) (λ _ _ N _=>c-(intOf N).toNat)
 case atStart=>exact⟨0,_,E,I,I,Z2,Below.refl _ _,bL _⟩
 case round =>
  obtain⟨b,P,ZS,rfl,rfl,G,y,ZP⟩:=hrel;refine iy ?_;intro f w z;by_cases Z3:b<c
  ·have D:=ab (gn g b);have ZR:(b:F)<(c:F):=E;have B:=ab (Z.o b);go_wp2_with fail;refine(Gv p b r c H o _ (A.below f) S.o (by rw[<- Z8.o];exact Z3)).mono ?_;exact pv
  ·exact px
def fo (c:F) (a:ac) (b:F):bb:=if aI c a&&b4 c b then bv (a9 (bm (cy b.toNat)) a a.length-O a 0) (aW a) else bb.no
theorem uQ {a:F} {c:ac} {b:F} (d:(aI a c&&b4 a b)=ak):fo a c b=bb.no:=by unfold fo;rw[d];rfl
theorem Cn {c:F} {a:ac} {b:J} (d:(aI c a&&b4 c (b:F))=ae):fo c a (b:F)=bv (a9 (bm (cy b)) a a.length-O a 0) (aW a):=by unfold fo;rw[d,cI];rfl
def jy (a:ac) (b:J):bb:=if aW a=O a 0 then bb.no else bv (cP a b a.length) (12*(aW a-O a 0))
theorem Ng (c a:J):ix 0 a<=bm (cy c) a:=by
 unfold ix bm;by_cases b:a=0
 ·subst b;have d:cy c 0=ae:=by unfold cy;simp
  rw[a7 rfl,d];simp
 ·rw[aF b];split<;>omega
theorem rz {l:F} {a:ac} (f:aI l a=ae) (c:J):0<=a9 (bm (cy c)) a a.length-O a 0 /\ a9 (bm (cy c)) a a.length<=1000000 /\ 0<=O a 0 /\ O a 0<=1000000 /\ O a 0<=aW a:=by
 obtain⟨k,q,n,e,m,o,_⟩:=bt f;have p:=b8 k;have i:=q9 a a.length (λ b d=>(e b d).1) (λ b _ _=>Ng c b);rw[nJ,a7 E] at i;have j:=(lv (cy c) f).2;have g:=e 0 E;have h:=q9 (g:=ix 0) (h:= λ _=>1) a a.length (λ b d=>(e b d).1) (λ b _ _=>by unfold ix;split<;>omega);rw[nJ,a7 E,uO] at h;exact⟨E,j,g.1,g.2,h⟩
theorem HO (g b:F) (n:aG) (p r:J) (j:ac) (a:af) (u:an a n p j):
  aC 234 #[am g n p r,M b] a (aL #[ba #[M (fo g j b).num,M (fo g j b).den],aw (fo g j b).ok]):=by
 have x:=u.below (w':=(a.alloc (al #[M g,aa n p r] 29)).alloc (al #[M 0,M 0] 55)) aD;cases m:aI g j
 ·have q:U (fo g j b=bb.no):=uQ (by rw[m];rfl);rw[q.o];go_enter func234,ntmps234;go_wp2_with fail;refine(cn _ _ _ _ j _ x).mono ?_;rw[m];rintro t k ⟨rfl,i⟩;refine fI ?_;intro c d e f;refine ic ?_;intro l;clear i;exact wQ
 ·cases w:b4 g b
  ·have q:U (fo g j b=bb.no):=uQ (by rw[w,Bool.and_false]);obtain⟨o,_⟩:=bt m;have v:bi 0 ((aH g:F)-1) b=ak:=by simpa [b4,o] using w
   rw[q.o];have y:=ab m;clear m;go_enter func234,ntmps234;go_wp2_with fail;refine(cn _ _ _ _ j _ x).mono ?_;rw[y.o];rintro t k ⟨rfl,i⟩;refine fI ?_;intro c d e f;have B:=aS i a.heap.size 0 (M g);refine ic ?_;intro l;clear i;go_wp2_with fail;refine(fh g b _ o).mono ?_;rw[v];rintro t z ⟨rfl,rfl⟩;exact wQ
  ·obtain⟨o,A,_⟩:=bt m;refine mU ?_;intro v;obtain⟨s,rfl⟩:∃s:J,b=(s:F):=⟨b.toNat,by have:=bM.1 v;omega⟩;rw[Cn (by rw[m,w];rfl)];exact G6 g s n p r j a u m (by have:=bM.1 v;omega)
theorem Ar (e:F) (j:J) (W:aG) (P p:J) (a:ac) (d:af) (s:an d W P a) (H:aI e a=ae) (X:bi 0 ((aH e:F)-1) j=ae->aW a=O a 0):
  aC 236 #[am e W P p,M j] d (bz 0 0 ak):=by
 obtain⟨L,Z2,A,t,Z0,ZZ,_⟩:=bt H;have ZV:=b8 L;obtain⟨o,G⟩:∃o,bi 0 ((aH e:F)-1) j=o:=⟨_,I⟩;have ZQ:o=ae->aW a=O a 0:= λ q=>X (by rw[G,q])
 clear X;obtain rfl:P=a.length:=s.len.symm;have Z9:=kt a j a.length A t a.length aZ;have Z1:=t 0 E;have ZX:=ab t;obtain⟨c,x⟩:∃c,a.length=c:=⟨_,I⟩;rw[x] at s A Z9 ⊢;have ZY:=ab x;have Z5:U (∀m,m<c->0<=O a m /\ O a m<=1000000):=by show ∀m,m<c->_;rw[<- x];exact t
 have Z4:0<c:=E;obtain⟨R,Y⟩:∃R,cP a j c=R:=⟨_,I⟩;obtain⟨u,B⟩:∃u,aW a=u:=⟨_,I⟩;obtain⟨Q,N⟩:∃Q,O a 0=Q:=⟨_,I⟩;rw[Y] at Z9;rw[B] at Z0 ZZ ZQ;rw[N] at Z1 ZQ;have K:o=ae->(u==Q)=ae:= λ q=>by have:=ZQ q;simp;omega
 clear ZQ;obtain⟨k,n,rfl,ZU,ZT,C⟩:=s.at bA Z4;rw[Nat.add_zero,N] at C;have S:U (∀b,an b (Z ⟨k,n,aj⟩) c a->aC 142 #[am e (Z ⟨k,n,aj⟩) c p] b (aw ae)):= λ b ZQ=>by rw[<- H];exact cn _ _ _ _ a _ ZQ
 have T:U (∀b,an b (Z ⟨k,n,aj⟩) c a->aC 157 #[am e (Z ⟨k,n,aj⟩) c p] b (M u)):= λ b ZQ=>by rw[<- B];exact gi _ _ _ _ a b ZQ (λ m Z3=>by have:=Z5.o m Z3;omega) A
 have V:U (∀b,aY prog 140 #[M e,M j] b λ q Z6=>q=aV (aw o) /\ b=Z6):= λ b=>by rw[<- G];exact fh e j b L
 have r:Below d.heap.size d ((d.alloc (al #[M e,aa (Z ⟨k,n,aj⟩) c p] 29)).alloc (al #[M 0,M 0] 55)):=aD;have l:=s.below r;have D:=ag r C;clear H L Z2 t Y B N x G C;cases o;all_goals
  first | (replace K:=K rfl) | (clear K)
  go_enter func236,ntmps236;go_wp2_with fail;obtain⟨i,g⟩:∃i,(d.alloc (al #[M e,aa (Z ⟨k,n,aj⟩) c p] 29)).alloc (al #[M 0,M 0] 55)=i:=⟨_,I⟩;rw[g];rw[g] at r l D;have Z8: i.cell? (ad d.heap.size 0)=Z (M e):=by rw[<- g];simp
  have Z7: i.cell? (ad d.heap.size 1)=Z (aa (Z ⟨k,n,aj⟩) c p):=by rw[<- g];simp
  have v: i.cell? (ad (d.heap.size+1) 0)=Z (M 0):=by rw[<- g];simp
  have w: i.cell? (ad (d.heap.size+1) 1)=Z (M 0):=by rw[<- g];simp
  have y: i.frozen? (ad (d.heap.size+1) 0)=ak:=by rw[<- g];simp
  have z: i.frozen? (ad (d.heap.size+1) 1)=ak:=by rw[<- g];simp
  clear g s;refine gj ah ah ?_;repeat (first | go_big_quiet_step ((first | (go_at_call 142;(with_reducible exact aQ (S.o _ (l.below (aM _ _))))) | (go_at_call 140;(with_reducible exact ej (V.o _))) | (go_at_call 157;(with_reducible exact aQ (T.o _ (l.below (aM _ _))))))) | quiet_step ((first | (go_at_call 142;(with_reducible exact aQ (S.o _ (l.below (aM _ _))))) | (go_at_call 140;(with_reducible exact ej (V.o _))) | (go_at_call 157;(with_reducible exact aQ (T.o _ (l.below (aM _ _))))))))
  refine dn ?_;refine dg ?_;intro ZR f;have ZS:=l.below f;replace y:=aB f v y;replace z:=aB f w z;replace v:=ag f v;replace w:=ag f w;replace Z8:=ag f Z8;replace Z7:=ag f Z7;replace D:=ag f D;have ZW:=au r f;clear f l r;go_wp2;refine aK (v:=bz 0 0 ak) (by simp[aJ,results236,go_sem,v,w,y,z]) I ⟨?_,?_⟩
  ·rfl
  ·exact aD
theorem HP (e:F) (b:J) (c:aG) (d g:J) (a:ac) (f:af) (k:an f c d a) (j:aI e a=ae) (l:b<a.length):
  aC 236 #[am e c d g,M b] f (aL #[ba #[M (jy a b).num,M (jy a b).den],aw (jy a b).ok]):=by
 by_cases i:aW a=O a 0
 ·have h:jy a b=bb.no:=by unfold jy;rw[a7 i]
  rw[h];exact Ar e b c d g a f k j λ _=>i
 ·have h:jy a b=bv (cP a b a.length) (12*(aW a-O a 0)):=by unfold jy;rw[aF i]
  rw[h];exact G5 e b c d g a f k j l (by have:=(rz j 0).2.2.2.2;omega)
theorem D9 (d:F) (b:J) (z:aG) (w o:J) (a:ac) (i:af) (e:an i z w a) (u:(aI d a&&b4 d (b:F))=ae):
  aC 73 #[am d z w o,M (b:F)] i (M (a9 (bm (cy b)) a a.length-O a 0)):=by
 have C:=u;rw[b9] at C;obtain⟨t,D⟩:=C;obtain⟨v,V,A,H,_⟩:=bt t;have P:=b8 v;have B:bi 0 ((aH d:F)-1) (b:F)=ae:=by simpa [b4,v] using D
 have r:=rz t b;obtain rfl:w=a.length:=e.len.symm;have R:b<a.length:=by have:=bM.1 B;omega
 obtain⟨c,q⟩:∃c,a.length=c:=⟨_,I⟩;rw[q] at e A R r ⊢;have K:U (∀Z4,Z4<c->0<=O a Z4 /\ O a Z4<=1000000):=by show ∀Z4,Z4<c->_;rw[<- q];exact H
 have S:b<16:=E;have Q:0<c:=E;obtain⟨f,k⟩:∃f,a9 (bm (cy b)) a c=f:=⟨_,I⟩;obtain⟨m,l⟩:∃m,O a 0=m:=⟨_,I⟩;rw[k,l] at r;rw[k,l];have Z8:IntKind.i64.wrap (f-m)=f-m:=bV _ E;obtain⟨n,x,rfl,g,Y,s⟩:=e.at bA Q;rw[Nat.add_zero,l] at s;have y:U (∀j,an j (Z ⟨n,x,aj⟩) c a->aC 96 #[am d (Z ⟨n,x,aj⟩) c o,M (b:F)] j (M f)):= λ j N=>by rw[<- k];exact tx d b _ _ _ a j N S A K.o
 have L:=ab u;clear V H k l q u t D v B P r;go_enter func73,ntmps73;go_wp2_with fail;refine(i1 d b _ _ _ a _ (e.below aD)).mono ?_;rw[L.o];rintro X W ⟨rfl,g⟩;have Z7:=aS g i.heap.size 0 (M d);have Z6:=aS g i.heap.size 1 (aa (Z ⟨n,x,aj⟩) c o);have p:ap i W:=bJ g;have Z9:=ag p s;have G:=e.below p;clear g s e;go_wp2_with fail;refine gj ah ah ?_;repeat (first | go_big_quiet_step ((go_at_call 96;(with_reducible exact aQ (y.o _ (G.below (aM _ _)))))) | quiet_step ((go_at_call 96;(with_reducible exact aQ (y.o _ (G.below (aM _ _)))))))
 refine dn ?_;refine dg ?_;intro Z5 T;go_wp2;go_ret;exact⟨I,au p T⟩
theorem Ea (a b:F) (e:aG) (g n:J) (d:ac) (c:af) (k:an c e g d) (j:(aI a d&&b4 a b)=ak):
  aC 73 #[am a e g n,M b] c (M (-1)):=by
 go_enter func73,ntmps73;go_wp2_with fail;refine(i1 a b _ _ _ d _ (k.below aD)).mono ?_;rw[j];rintro m l ⟨rfl,f⟩;have i:ap c l:=bJ f;clear f;go_wp2;go_ret;exact⟨I,i⟩
theorem CO (d:F) (a:aG) (c b:J) (e:af):
  aC 72 #[am d a c b,M (-1)] e (bz 0 0 ak):=by
 go_enter func72,ntmps72;go_wp2;refine aK (v:=bz 0 0 ak) (by simp[aJ,results72,go_sem]) I ⟨?_,?_⟩
 ·rfl
 ·exact aD
theorem Co (n a:F) (o:aG) (p s:J) (b:ac) (g:af) (x:an g o p b) (m:aI n b=ae) (B:0<=a) (C:a<=4000000):
  aC 72 #[am n o p s,M a] g (aL #[ba #[M (bv a (aW b)).num,M (bv a (aW b)).den],aw (bv a (aW b)).ok]):=by
 obtain⟨w,v,D,y,K,L,_⟩:=bt m;have H:¬a<0:=E;have r:=ab m;obtain⟨c,l⟩:∃z,bv a (aW b)=z:=⟨_,I⟩;rw[l];have q:U (∀O,aC 77 #[M a,M (aW b)] O (bz c.num c.den c.ok)):= λ O=>by rw[<- l];exact oD _ _ O E E E E E
 clear w v y m l;go_enter func72,ntmps72;go_wp2_with fail;refine(hn n _ _ _ b _ (x.below aD) r.o).mono ?_;rintro t A ⟨rfl,k⟩;obtain⟨e,f,i,j⟩:=cj (g.heap.size+1) k ar;have u:ap g A:=bJ k;clear k;go_wp2_with fail;refine(q.o _).mono ?_;rintro t N ⟨rfl,d⟩;replace i:=aB d e i;replace j:=aB d f j;replace e:=ag d e;replace f:=ag d f;have G:=au u d;clear d;go_wp2;refine aK (v:=bz c.num c.den c.ok) (by simp[aJ,results72,go_sem,e,f,i,j]) I ⟨?_,?_⟩
 ·rfl
 ·exact aD
theorem EM (g b:F) (f:aG) (i l:J) (a:ac) (d:af) (L:an d f i a):
  aC 26 #[am g f i l,M b] d (aL #[ba #[M (fo g a b).num,M (fo g a b).den],aw (fo g a b).ok]):=by
 obtain⟨u,q⟩:∃u:F,U ((∀c,an c f i a->aC 73 #[am g f i l,M b] c (M u)) /\ (∀c,an c f i a->aC 72 #[am g f i l,M u] c (aL #[ba #[M (fo g a b).num,M (fo g a b).den],aw (fo g a b).ok]))):=by
  cases n:aI g a&&b4 g b
  ·refine⟨-1,ab ⟨λ c k=>Ea g b _ _ _ a c k n,λ c k=>?_⟩⟩;rw[uQ n];exact CO g _ _ _ c
  ·have G:=n;rw[b9] at G;obtain⟨A,w⟩:=G;obtain⟨o,_⟩:=bt A;refine mU ?_;intro v;obtain⟨t,rfl⟩:∃t:J,b=(t:F):=⟨b.toNat,by have:=bM.1 v;omega⟩;have K:=rz A t;refine⟨_,ab ⟨λ c k=>D9 g t _ _ _ a c k n,λ c k=>?_⟩⟩;rw[Cn n];exact Co g _ _ _ _ a c k A K.1 E
 obtain⟨z,D⟩:∃P,fo g a b=P:=⟨_,I⟩;rw[D] at q ⊢;clear D;have B:=ab q.o.1;have C:=ab q.o.2;have p:=L.below (w':=(d.alloc (al #[M g,aa f i l] 29)).alloc (al #[M 0,M 0] 55)) aD;clear q;go_enter func26,ntmps26;go_wp2_with fail;obtain⟨j,e⟩:∃j,(d.alloc (al #[M g,aa f i l] 29)).alloc (al #[M 0,M 0] 55)=j:=⟨_,I⟩;have H:ap d j:=by rw[<- e];exact aD
 have N: j.cell? (ad d.heap.size 0)=Z (M g):=by rw[<- e];simp
 have O: j.cell? (ad d.heap.size 1)=Z (aa f i l):=by rw[<- e];simp
 have r: j.cell? (ad (d.heap.size+1) 0)=Z (M 0):=by rw[<- e];simp
 have s: j.cell? (ad (d.heap.size+1) 1)=Z (M 0):=by rw[<- e];simp
 have x: j.frozen? (ad (d.heap.size+1) 0)=ak:=by rw[<- e];simp
 have y: j.frozen? (ad (d.heap.size+1) 1)=ak:=by rw[<- e];simp
 rw[e] at p;rw[e];clear e;refine ei 7 ah ah (λ _ _ _ _ _ k=>k) ?_;simp only[List.take_succ_cons,List.take_zero,List.drop_succ_cons,List.drop_zero];repeat (first | go_big_quiet_step ((first | (go_at_call 73;(with_reducible exact aQ (B.o _ (p.below (aM _ _))))) | (go_at_call 72;(with_reducible exact aQ (C.o _ (p.below (aM _ _))))))) | quiet_step ((first | (go_at_call 73;(with_reducible exact aQ (B.o _ (p.below (aM _ _))))) | (go_at_call 72;(with_reducible exact aQ (C.o _ (p.below (aM _ _))))))))
 refine dn ?_;refine dg ?_;intro R m;replace x:=aB m r x;replace y:=aB m s y;replace r:=ag m r;replace s:=ag m s;have Q:=au H m;clear m N O;go_wp2;refine aK (v:=bz z.num z.den z.ok) (by simp[aJ,results26,go_sem,r,s,x,y]) I ⟨?_,?_⟩
 ·rfl
 ·exact aD
theorem rA {b:ac} (c:∀a,a<b.length->0<=O b a /\ O b a<=1000000):h5 b:= λ a d=>by have:=c a d;omega
theorem ri {b:F} {c:ac} (e:aI b c=ae):∀a,a<(fS b c).length->0<=O (fS b c) a /\ O (fS b c) a<=1000000:= λ a d=>by
 unfold fS at d ⊢;rw[gn] at d;rw[uC _ _ _ d];exact lv _ e
theorem q5 {b:F} {c:ac} (d:aI b c=ae):(fS b c).length<=4:=by
 obtain⟨e,_⟩:=bt d;unfold fS;rw[gn];rcases cG.1 e with a | a | a | a<;>omega
end Go.Proofs.YtkjnhlpccgjfhaaGreatDoor
