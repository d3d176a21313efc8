/- A part of the proof: lemmas (my texts, shortened by a program of mine). -/
import Derived.Laws.AppendOwnNone
import Derived.Maps.AppendAt
import Derived.Test.YtkjnhlpccgjfhaaGreatDoorC11
set_option linter.all false
set_option maxRecDepth 100000
set_option maxHeartbeats 4000000
namespace Go.Proofs.YtkjnhlpccgjfhaaGreatDoor
open Go.RowKit
open Go.Proofs.Tryz
open Bool renaming false->ak,true->ae,true_and->eo
open Go renaming Calls->aY,Oper->bD,Value->ay,World->af,bodyPost_ret->aK,callFunc->b0,results->aJ,wpQuiet_nil->dn
open Go.BinOp renaming andNot->hZ
open Go.Ending renaming returned->aV
open Go.IntKind renaming i64->cz
open Go.Obj renaming cells->al
open Go.Result renaming andThen_ok->ex
open Go.Sem renaming run->c9,run_bind->eC,run_pure->ey
open Go.Value renaming bool->aw,int->ed,slice->aa,tuple->aL
open Go.World renaming ownsRow_lit->fF
open Go.World.ownsRow renaming cells->iN,lt->fs
open Int renaming le_refl->fE,zero_mul->j9
open List renaming drop_eq_getElem_cons->mH,getElem?_eq_getElem->fV,getElem_of_mem->kP,range->cN,replicate->bE
open Nat renaming le_trans->ez,lt_of_lt_of_le->cm
open Option renaming isNone_iff_eq_none->eB,none->aj,some->Z
open Or renaming inl->bj,inr->aP
open _root_ renaming Array->bg,Bool->a8,Int->F,List->aU,Nat->J,beq_iff_eq->cR,if_neg->aF,if_pos->a7,rfl->I
variable {p q:Prop}
theorem av.lit (a:af):av (a.alloc (al #[] 3)) a.heap.size (aq a.heap.size 0 0) []:=fF a #[] 0 aZ (by unfold maxLen;omega) I
theorem zx {a:af} {C:bg bD} {rest:aU bD} {m:bD} {k:Act} {p:Exit->Act->af->Prop} (s:m.guard=aj) (n o:Operand)
  (u:m.op=.call {callee:=.builtin .append,args:=#[n,o],argTypes:=#[27,27]})
  (d:J) (j:ay) (g:ac) (B:J) (T:g.length=B) (w:k.eval n=j) (l:av a d j g)
  (H:J) (D:ay) (h:ac) (y:k.eval o=D) (x:av a H D h)
  (Z6:B+h.length<1000000000) (R:d<=a.heap.size)
  (r:∀c f e b,av b d (aa c f e) (g++h)->a.grownBy b j.ownBlock->wpList prog C p rest (k.put m.dst (aa c f e)) b):
  wpList prog C p (m::rest) k a:=by
 obtain⟨A,t,W,X,Y⟩:=info_parts ig;subst T;have U:=x;rcases x.2 with ⟨L,O⟩ | ⟨q,K,Z9,N,Z8,Z7,Z4⟩
 ·have V:=List.eq_nil_of_length_eq_zero O;subst L V;refine wpList_append_own_none s n o 27 u d 3 A 1 underlying27 t j g.length _ w l y ?_;obtain⟨c,f,e,i,_⟩:=l.ints;subst i;refine r c f e a ?_ (hI _ _);rw[List.append_nil];exact l
 ·subst N;refine wpList_append_own_at a s n o 27 u d 3 A (M 0) 1 8 underlying27 t W X Y I aX j g.length _ w l (ad q 0) h.length K (h.map (ed .i64)) y ar ?_ ?_ (by unfold maxLen;omega) E R λ G b P Q _ _=>?_
  ·intro Z3 F S;have i:=iN U (g:=q) I Z3 F S;exact i
  ·intro F z;simp at z;obtain⟨Z5,_,rfl⟩:=z;rfl
  ·have v:av b d G (g++h):=by simpa [av] using P
   obtain⟨c,f,e,i,_⟩:=v.ints;subst i;exact r c f e b v Q
theorem cY.at {b d:af} {e:J} {n:ay} {c:aU (ac)} (i:cY b e n c) (j:ap b d) {k:J} (u:k<c.length):
  ∃a f m,n=aq a c.length f /\ e<=a /\ a<b.heap.size /\ a<d.heap.size /\ d.cell? (ad a k)=Z m /\ av b e m (aO c k):=by
 obtain⟨a,f,p,q,g⟩:=i.form2 E;subst p;obtain⟨o,s,v,t⟩:=i.own;have l:o[k]? =Z (o[k]'(E)):=fV E;have h:=iN s (g:=a) I k _ l;have r:((ad a 0):Addr).add k=(ad a k):=by unfold Addr.add;split<;>simp_all
 rw[r] at h;exact⟨a,f,_,I,q,g,cm g j.size,(j.cell (p:=(ad a k)) g).trans h,(t k _ l).1⟩
theorem JA (m:aG) (d r:J) (c:ac) (b:F) (l:af) (j:an l m d c):
  aY prog 388 #[aa m d r,M b] l λ s p=>(∃o:F,s=aV (M o) /\ decide (0<=o)=iM c b) /\ l=p:=by
 have x:=j.cap;have g:=ab j.len;go_enter func388,ntmps388;go_wp2;go_loop [5,8] (λ _ k=>∃a:J,a<=d /\ k=M a /\ bq (λ a=> !(O c a==b)) a=ae) (λ _ k=>d-(intOf k).toNat)
 case atStart=>exact⟨0,E,I,I⟩
 case round =>
  obtain⟨a,z,rfl,n⟩:=hrel;have i:=ab n;clear n;by_cases e:a<d
  ·obtain⟨v,A,rfl,w,u,y⟩:=j.at bA e;cases f:(b==O c a)
   ·have q:U ((O c a==b)=ak):=by rw[U];simp at f ⊢;omega
    exact wZ
   ·have B:U (iM c b=ae):=by
     rw[U];unfold iM;exact xh
    go_wp2
    go_ret
    exact⟨⟨_,I,by rw[B.o];simp⟩,I⟩
  ·have t:a=d:=E;subst t;have B:U (iM c b=ak):=by
    rw[U];unfold iM;rw[g.o,i.o];rfl
   go_wp2;go_ret;exact⟨⟨_,I,by rw[B.o];simp⟩,I⟩
theorem GJ (d:aG) (g j:J) (c:ac) (b:F) (a:af) (k:an a d g c):
  aY prog 378 #[aa d g j,M b] a λ e n=>e=aV (aw (iM c b)) /\ a=n:=by
 go_enter func378,ntmps378;go_wp2_with fail;refine(JA _ _ _ c b _ k).mono ?_;rintro e m ⟨⟨l,rfl,f⟩,rfl⟩;have i:=ab f;clear f;go_wp2;go_ret;exact⟨ct (by rw[<- i.o]),I⟩
theorem KC (o:aG) (d s:J) (c:ac) (b:F) (n:af) (l:an n o d c):
  aY prog 290 #[aa o d s,M b] n λ t r=>t=aV (aw (iM c b)) /\ n=r:=by
 have y:=l.cap;have g:=ab l.len;obtain⟨C,k⟩:∃C,U (iM c b=C):=⟨_,I⟩;rw[k.o];go_enter func290,ntmps290;go_wp2;go_loop [5] (λ m=>∃a:J,a<=d /\ m=M a /\ bq (λ a=> !(O c a==b)) a=ae) (λ m=>d-(intOf m).toNat)
 case atStart=>exact⟨0,E,I,I⟩
 case round =>
  obtain⟨a,A,rfl,p⟩:=hrel;have i:=ab p;clear p;by_cases e:a<d
  ·obtain⟨w,B,rfl,x,v,z⟩:=l.at bA e;cases f:(O c a==b)
   ·have q:=ab f;exact wZ
   ·have j:U (C=ae):=by
     rw[U,<- k.o];unfold iM;exact xh
    go_wp2
    go_ret
    exact⟨ct j.o.symm,I⟩
  ·have u:a=d:=E;subst u;have j:U (C=ak):=by
    rw[U,<- k.o];unfold iM;rw[g.o,i.o];rfl
   go_wp2;go_ret;exact⟨ct j.o.symm,I⟩
theorem cY.one (a:af):cY ((a.alloc (al #[] 3)).alloc (al #[aq a.heap.size 0 0] 27)) a.heap.size (aq (a.heap.size+1) 1 1) [[]]:=by
 have c:=fF (base:=a.heap.size) (a.alloc (al #[] 3)) (e:=27) (size:=1) #[aq a.heap.size 0 0] 1 ar (by unfold maxLen;omega) I;have f:(a.alloc (al #[] 3)).heap.size=a.heap.size+1:=ar;rw[f] at c;refine⟨[aq a.heap.size 0 0],c,I,λ g k b=>?_⟩
 match g,b with
 | 0,b =>
  simp at b
  subst b
  refine⟨(av.lit a).below (az _ _),λ h e d=>?_⟩
  have i:=dD e
  have j:=dD d
  omega
theorem G0 (a:J) (f:af) (Z4:a<=4):
  aY prog 352 #[M (a:F)] f λ l X=>(∃z,l=aV z /\ cY X f.heap.size z (dq a)) /\ ap f X:=by
 have Y:Below f.heap.size f ((f.alloc (al #[] 3)).alloc (al #[aq f.heap.size 0 0] 27)):=aD;have Z3:=cY.one f;go_enter func352,ntmps352;go_wp2;go_loopw [3,11] (λ C m wr=>∃(e:J) (z:ay),e<=a /\ m=M e /\ C=z /\ cY wr f.heap.size z (fA a e) /\ ap f wr) (λ _ m _=>a-(intOf m).toNat)
 case atStart=>exact⟨0,_,E,I,I,Z3,Y⟩
 case round =>
  clear Z3 Y;obtain⟨e,z,ZI,rfl,rfl,o,B⟩:=hrel;obtain⟨j,rfl⟩:∃g:af,g=wr:=⟨_,I⟩;have P:=B.size;by_cases Zm:e<a
  ·obtain⟨Z6,Z7,Z⟩:=mj Z4 ZI;have K:=ab Z;clear Z;obtain⟨Zs,Zu,ZK,Zp,Zo⟩:=o.form2 E;subst ZK;obtain⟨i,u⟩:∃i,U (fA a e=i):=⟨_,I⟩;rw[u.o] at o Z6 Z7 K;obtain⟨x,v⟩:∃x,i.length=x:=⟨_,I⟩;rw[u.o,v];rw[v] at o Z6 Z7 K;go_wp2;go_loopw [4,16] (λ C m wr=>∃(c:J) (y:ay),c<=x /\ m=M c /\ C=y /\ cY wr j.heap.size y (iF a i c) /\ ap j wr) (λ _ m _=>x-(intOf m).toNat)
   case atStart=>exact⟨0,_,E,I,I,cY.lit j,az _ _⟩
   case round =>
    obtain⟨c,y,Zn,rfl,rfl,p,A⟩:=hrel;obtain⟨Zg,rfl⟩:∃g:af,g=wr:=⟨_,I⟩;by_cases ZJ:c<x
    ·obtain⟨Zt,ZF,Zf,ZP,_,_,Zq,Zr,w⟩:=o.at A (k:=c) E;injection ZP with L ZO ZN
     injection L with L
     injection L with ZM ZL
     subst ZM;obtain⟨ZR,ZG,ZQ,rfl,Z8⟩:=w.ints;obtain⟨d,t⟩:∃d,U (aO i c=d):=⟨_,I⟩;rw[t.o] at w Z8;have Z5:d.length=e:=by rw[<- t.o];exact(K.o c ZJ).1
     have ZH:=BO a i c;have Zl:a*c<=4*24:=Nat.mul_le_mul Z4 E;obtain⟨k,G⟩:∃k,U (iF a i c=k):=⟨_,I⟩;rw[G.o] at p ZH;clear ZO ZN ZL;go_wp2;go_loopw [4,21] (λ C m wr=>∃(b:J) (y:ay),b<=a /\ m=M b /\ C=y /\ cY wr j.heap.size y (iL d k b) /\ ap j wr) (λ _ m _=>a-(intOf m).toNat)
     case atStart=>exact⟨0,_,E,I,I,p,A⟩
     case round =>
      clear p;obtain⟨b,Zi,Zk,rfl,rfl,q,n⟩:=hrel;have Z9:=ux d k b;have Q:=n.size;by_cases Zj:b<a
      ·go_wp2_with fail;refine(GJ ZR ZG ZQ d (b:F) _ (Z8.below n)).mono ?_;rintro l Zh ⟨rfl,rfl⟩;exact xD
      ·have O:b=a:=E;exact w8
    ·have N:c=x:=E;exact xn
  ·exact wP
theorem GK (a:J) (f:af) (Z4:a<=4):
  aY prog 184 #[M (a:F)] f λ l X=>(∃z,l=aV z /\ cY X f.heap.size z (dq a)) /\ ap f X:=by
 have Y:Below f.heap.size f ((f.alloc (al #[] 3)).alloc (al #[aq f.heap.size 0 0] 27)):=aD;have Z3:=cY.one f;go_enter func184,ntmps184;go_wp2;go_loopw [3,4] (λ C m wr=>∃(e:J) (z:ay),e<=a /\ m=M e /\ C=z /\ cY wr f.heap.size z (fA a e) /\ ap f wr) (λ _ m _=>a-(intOf m).toNat)
 case atStart=>exact⟨0,_,E,I,I,Z3,Y⟩
 case round =>
  clear Z3 Y;obtain⟨e,z,ZH,rfl,rfl,o,B⟩:=hrel;obtain⟨j,rfl⟩:∃g:af,g=wr:=⟨_,I⟩;have P:=B.size;by_cases Zl:e<a
  ·obtain⟨Z6,Z7,Z⟩:=mj Z4 ZH;have K:=ab Z;clear Z;obtain⟨Zr,Zt,ZJ,Zo,Zn⟩:=o.form2 E;subst ZJ;obtain⟨i,u⟩:∃i,U (fA a e=i):=⟨_,I⟩;rw[u.o] at o Z6 Z7 K;obtain⟨x,v⟩:∃x,i.length=x:=⟨_,I⟩;rw[u.o,v];rw[v] at o Z6 Z7 K;go_wp2;go_loopw [5,6] (λ C m wr=>∃(c:J) (y:ay),c<=x /\ m=M c /\ C=y /\ cY wr j.heap.size y (iF a i c) /\ ap j wr) (λ _ m _=>x-(intOf m).toNat)
   case atStart=>exact⟨0,_,E,I,I,cY.lit j,az _ _⟩
   case round =>
    obtain⟨c,y,Zm,rfl,rfl,p,A⟩:=hrel;obtain⟨Zf,rfl⟩:∃g:af,g=wr:=⟨_,I⟩;by_cases ZI:c<x
    ·obtain⟨Zs,Zu,Ze,ZP,_,_,Zp,ZK,w⟩:=o.at bA (k:=c) E;injection ZP with L ZO ZN
     injection L with L
     injection L with ZM ZL
     subst ZM;obtain⟨ZR,ZF,ZQ,rfl,Z8⟩:=w.ints;obtain⟨d,t⟩:∃d,U (aO i c=d):=⟨_,I⟩;rw[t.o] at w Z8;have Z5:d.length=e:=by rw[<- t.o];exact(K.o c ZI).1
     have ZG:=BO a i c;have Zk:a*c<=4*24:=Nat.mul_le_mul Z4 E;obtain⟨k,G⟩:∃k,U (iF a i c=k):=⟨_,I⟩;rw[G.o] at p ZG;clear ZO ZN ZL;go_wp2;go_loopw [5,7] (λ C m wr=>∃(b:J) (y:ay),b<=a /\ m=M b /\ C=y /\ cY wr j.heap.size y (iL d k b) /\ ap j wr) (λ _ m _=>a-(intOf m).toNat)
     case atStart=>exact⟨0,_,E,I,I,p,A⟩
     case round =>
      clear p;obtain⟨b,Zh,Zj,rfl,rfl,q,n⟩:=hrel;have Z9:=ux d k b;have Q:=n.size;have Zq:=ag n ZK;by_cases Zi:b<a
      ·go_wp2_with fail;refine(KC ZR ZF ZQ d (b:F) _ (Z8.below n)).mono ?_;rintro l Zg ⟨rfl,rfl⟩;exact xD
      ·have O:b=a:=E;exact w8
    ·have N:c=x:=E;exact xn
  ·exact wP
theorem CY {b:ac} {c a:J} (d:a<b.length):df (b.drop a) c=if bZ c (O b a).toNat then 2^(O b a).toNat else df (b.drop (a+1)) c:=by
 rw[mH d,cK _ _ d];rfl
theorem NA (a:ac) (b:J):df (a.drop a.length) b=0:=by rw[List.drop_length];rfl
theorem KD (b:J->J) (c:ac) (a:J) (d:O c 0=0):bF b c a 1=bE a 0:=by
 show (bE a (0:F)).set (b 0) (O (bE a 0) (b 0)+O c 0)=_;rw[d,eF];apply List.ext_getElem
 ·simp
 ·intro g e f;rw[List.getElem_set];split<;>simp
theorem Iv:∀b:Fin 5,∀a:Fin (2^b.val),a.val≠0->∃c:Fin b.val,bZ a.val c.val=ae:=aX
theorem JB (c:J) (g:c<=4) (b:J) (e:b<2^c) (d:b≠0):∃a,a<c /\ bZ b a=ae:=by
 obtain⟨a,f⟩:=Iv ⟨c,E⟩ ⟨b,e⟩ d;exact⟨a.val,a.isLt,f⟩
theorem NB (d:af) (b c:ay) (e:TypeId) (a:J) (f:d.heap.size=a):(d.alloc (al #[b,c] e)).cell? (ad a 0)=Z b /\ (d.alloc (al #[b,c] e)).cell? (ad a 1)=Z c /\ (d.alloc (al #[b,c] e)).frozen? (ad a 0)=ak /\ (d.alloc (al #[b,c] e)).frozen? (ad a 1)=ak:=by
 subst f;simp
theorem CJ {c:J} {b:ac} (d:g5 c b) (f:c<=4):∀a,a<b.length->0<=O b a /\ O b a<=28:= λ a e=>by
 have:=d.1 _ (ms b a e);omega
theorem FW (c n:J) (p:aG) (f w:J) (b:ac) (j:af) (y:c<1000000000) (G: j.cell? (ad n 0)=Z (aa p f w)) (l:an j p f b) (q:∀a,a<f->0<=O b a /\ O b a<=28):
  aY prog 336 #[M c,br n] j λ x v=>x=aV (M (df b c)) /\ j=v:=by
 have L:=l.cap;have r:=ab l.len;obtain⟨R,o⟩:∃R,U (df b c=R):=⟨_,I⟩;rw[o.o];go_enter func336,ntmps336;go_wp2;go_loop [5,8] (λ _ m=>∃a:J,a<=f /\ m=M a /\ df (b.drop a) c=R) (λ _ m=>f-(intOf m).toNat)
 case atStart=>exact⟨0,E,I,o.o⟩
 case round =>
  obtain⟨a,N,rfl,e⟩:=hrel;by_cases k:a<f
  ·obtain⟨D,Q,rfl,K,C,z⟩:=l.at bA k;have B:=q a k;rw[CY (by rw[r.o];exact k)] at e;obtain⟨g,s⟩:∃g:J,O b a=(g:F):=⟨(O b a).toNat,E⟩;have t:(O b a).toNat=g:=E;rw[t] at e;rw[s] at z B;have H:=mu c g y;have P:=gO g E;clear s q t;cases i:bZ c g
   ·have u:c.testBit g=ak:=i;have d:U (df (b.drop (a+1)) c=R):=by rw[U,<- e,i];rfl
    clear e;go_wp2;exact vR
   ·have u:c.testBit g=ae:=i;have d:U (2^g=R):=by rw[U,<- e,i];rfl
    clear e;go_wp2;go_ret;exact⟨by rw[<- d.o];rfl,I⟩
  ·have A:a=f:=E;subst A;have d:U (R=0):=by rw[U,<- e,<- r.o];exact NA b c
   clear e;exact sa
theorem Fj (c:bg ay) (a:af):c9 prog (b0 336 c) a=.ok (.enter 336 c) a:=by
 have g:(Tryz.f336.name== "runtime.NumGoroutine")=ak:=ah;have b:Tryz.f336.body.isNone=ak:=ah;have d:¬Tryz.f336.name= "runtime.NumGoroutine" :=by simpa using g
 have e:¬Tryz.f336.body=aj:=by intro f;rw[f] at b;simp at b
 simp only[b0,eC,run_program,ex,func336,cR,eB,aF d,aF e,ey]
theorem zI (a:F) (i j:aG) (d k o p:J) (g e:ac) (b:af) (D:an b i d g) (G:an b j o e) (T:aI a g=ae) (w:g5 a.toNat e):
  bp 277 #[am a i d k,aa j o p] b (dQ a g e):=by
 obtain⟨x,S,Q,A,_,_,_⟩:=bt T;have K:=ab A;clear A;have Z1:1<=a /\ a<=4:=by rcases cG.1 x with s | s | s | s<;>omega
 have L:=ab (CJ w E);have B:aH a=2^a.toNat:=by rcases cG.1 x with rfl | rfl | rfl | rfl<;>rfl
 have O:U (∀c,c<d->df e c<aH a):= λ c _=>by rw[B];exact tO e a.toNat c w.1
 have V:=ab G.len;have v:=ab D.len;have N:U (dQ a g e=bh a (bF (λ c=>df e c) g (aH a) d)):=by
  show bh a (ki e g g.length)=_;unfold ki;rw[<- v.o,S]
 rw[N.o];have W:d<=16:=by rw[<- v.o];exact Q
 clear B w;obtain⟨f,ZW⟩:∃f,U (((b.alloc (al #[M a,aa i d k] 29)).alloc (al #[aa j o p] 27)).alloc (al #[M 0,aa aj 0 0] 29)=f):=⟨_,I⟩;have t:ap b f:=by rw[<- ZW.o];exact aD
 have X: f.cell? (ad (b.heap.size+1) 0)=Z (aa j o p):=by rw[<- ZW.o];simp
 have Z3: f.cell? (ad b.heap.size 0)=Z (M a):=by rw[<- ZW.o];simp
 have Z2: f.cell? (ad b.heap.size 1)=Z (aa i d k):=by rw[<- ZW.o];simp
 obtain⟨l,m,q,r⟩:=NB ((b.alloc (al #[M a,aa i d k] 29)).alloc (al #[aa j o p] 27)) (M 0) (aa aj 0 0) 29 (b.heap.size+1+1) ar;rw[ZW.o] at l m q r;have Z0:b.heap.size+1+1<f.heap.size:=by rw[<- ZW.o];simp
 go_enter func277,ntmps277;go_wp2_with fail;rw[ZW.o];refine(oS a a i d k g 336 #[br (b.heap.size+1)] (λ c=>df e c) f (D.below t) W x Fj (λ y u=>K.o y (by rw[v.o];exact u)) O.o (λ c H Z5 z=>?_)).mono ?_
 ·exact(FW c _ _ _ _ _ H E (ag z X) ((G.below t).below z) (λ y u=>L.o y (by rw[V.o];exact u))).mono λ P Z9 ⟨R,Y⟩=>⟨R,lb Y⟩
 rintro P ZX ⟨⟨ZY,rfl,C⟩,n⟩;obtain⟨Z8,ZZ,Z7,rfl,Z4⟩:=C.ints;replace q:=aB n l q;replace r:=aB n m r;replace l:=ag n l;replace m:=ag n m;have Z6:=au t n;go_wp2;refine aK (by simp[aJ,results277,go_sem,l,m]) I ⟨⟨_,I,((C.setBelow E _).setBelow E _).mono E⟩,?_⟩;exact aD
theorem G1 (c:J) (p:aG) (e u:J) (b:ac) (n:af) (q:c<1000000000) (l:an n p e b) (j:∀a,a<e->0<=O b a /\ O b a<=28) (v:∃a,a<e /\ bZ c (O b a).toNat=ae):
  aY prog 291 #[M c,aa p e u] n λ i K=>(∃o:J,i=aV (M o) /\ df b c=2^o /\ o<=28) /\ n=K:=by
 have B:=l.cap;have x:=ab l.len;obtain⟨s,F,r⟩:=v;have t:=ab r;clear r;go_enter func291,ntmps291;go_wp2;go_loop [5] (λ m=>∃a:J,a<=s /\ m=M a /\ df (b.drop a) c=df b c) (λ m=>e-(intOf m).toNat)
 case atStart=>exact⟨0,E,I,I⟩
 case round =>
  obtain⟨a,D,rfl,f⟩:=hrel;have k:a<e:=E;obtain⟨z,H,rfl,A,y,C⟩:=l.at bA k;have w:=j a k;rw[CY (by rw[x.o];exact k)] at f;cases g:bZ c (O b a).toNat
  ·have G:a≠s:=by rintro rfl;rw[t.o] at g;cases g
   have d:U (df (b.drop (a+1)) c=df b c):=by rw[U,<- f,g];rfl
   clear f j;go_wp2_with (first | (go_at_call 66;refine(lk _ _ _ q E E).mono ?_;rintro i K ⟨rfl,rfl⟩));exact vR
  ·have d:U (df b c=2^(O b a).toNat):=by rw[U,<- f,g];rfl
   clear f j;go_wp2_with (first | (go_at_call 66;refine(lk _ _ _ q E E).mono ?_;rintro i K ⟨rfl,rfl⟩));go_ret;exact⟨⟨(O b a).toNat,by rw[Int.toNat_of_nonneg w.1];rfl,d.o,E⟩,I⟩
theorem An (o:F) (C Z5:aG) (i Z4 Z6 ZW:J) (l j:ac) (a:af) (Z1:an a C i l) (Z0:an a Z5 Z6 j) (Zq:aI o l=ae) (Zw:O l 0=0) (W:g5 o.toNat j):
  bp 185 #[am o C i Z4,aa Z5 Z6 ZW] a (dQ o l j):=by
 obtain⟨ZL,Z2,Zv,z,_,_,_⟩:=bt Zq;have ZY:=ab z;clear z;have Y2:1<=o /\ o<=4:=by rcases cG.1 ZL with x | x | x | x<;>omega
 have ZH:=ab (CJ W E);have V:aH o=2^o.toNat:=by rcases cG.1 ZL with rfl | rfl | rfl | rfl<;>rfl
 have ZO:=ab Z0.len;have v:=ab Z1.len;have ZE:U (∀g,g<i->df j g<i):= λ g _=>by rw[<- v.o,Z2,V];exact tO j o.toNat g W.1
 have ZF:U (∀g,1<=g->g<i->∃b,b<Z6 /\ bZ g (O j b).toNat=ae):= λ g Za ZR=>by
  obtain⟨A,ZJ,Zl⟩:=JB o.toNat E g (by rw[<- v.o,Z2,V] at ZR;exact ZR) E;obtain⟨b,u,n⟩:=kP (W.2 A ZJ);exact⟨b,by rw[<- ZO.o];exact u,by rw[cK _ _ u,n];exact Zl⟩
 have ZG:U (dQ o l j=bh o (bF (λ g=>df j g) l i i)):=by
  show bh o (ki j l l.length)=_;unfold ki;rw[<- v.o]
 rw[ZG.o];have Zo:i<=16:=by rw[<- v.o];exact Zv
 have Zp:1<=i:=by rw[<- v.o,Z2,V];exact Nat.one_le_two_pow
 have ZB:=ab (KD (λ g=>df j g) l i Zw);have ZX:=ab (mh (λ g=>df j g) l i i 1000000 E (λ b u=>ZY.o b (by rw[v.o];exact u)));have Y7:=Z1.cap;clear V W;obtain⟨p,r⟩:∃p,U ((a.alloc (al #[M o,aa C i Z4] 29)).alloc (al #[M 0,aa aj 0 0] 29)=p):=⟨_,I⟩;have ZQ:ap a p:=by rw[<- r.o];exact aD
 have X: p.cell? (ad a.heap.size 0)=Z (M o):=by rw[<- r.o];simp
 have Y: p.cell? (ad a.heap.size 1)=Z (aa C i Z4):=by rw[<- r.o];simp
 have c: p.cell? (ad (a.heap.size+1) 0)=Z (M 0):=by rw[<- r.o];simp
 have d: p.cell? (ad (a.heap.size+1) 1)=Z (aa aj 0 0):=by rw[<- r.o];simp
 have e: p.frozen? (ad (a.heap.size+1) 0)=ak:=by rw[<- r.o];simp
 have f: p.frozen? (ad (a.heap.size+1) 1)=ak:=by rw[<- r.o];simp
 have YW:a.heap.size+1<p.heap.size:=by rw[<- r.o];simp
 have ZJ:=Z0.below ZQ;go_enter func185,ntmps185;go_wp2_with (first | (at_make;rw[r.o];refine e6 rfl _ _ rfl i _ _ rfl rfl rfl rfl E ?_;intro Zi ZN s YY));replace Y:=ag s Y;replace X:=ag s X;replace e:=aB s c e;replace f:=aB s d f;replace c:=ag s c;replace d:=ag s d;have R:=au ZQ s;clear s;rw[<- ZB.o] at ZN;go_loopw [7] (λ ZZ wr=>∃b:J,1<=b /\ b<=i /\ ZZ=M b /\ av wr p.heap.size (aq p.heap.size i i) (bF (λ g=>df j g) l i b) /\ Below p.heap.size Zi wr) (λ ZZ _=>i-(intOf ZZ).toNat)
 case atStart=>exact⟨1,E,Zp,I,ZN,Below.refl _ _⟩
 case round =>
  obtain⟨b,Zs,u,rfl,t,m⟩:=hrel;refine l1 ?_;intro q;have Zn:=dL m E Y;by_cases T:b<i
  ·obtain⟨Zd,YU,rfl,Y8,Zh,Y6⟩:=Z1.at q T;have Zk:=Z0.below q;have Y0:=ZY.o b (by rw[v.o];exact T);have G:=ZE.o b T;have z:=ZX.o b E (df j b);have Y3:(b:F)<=16:=E;have Y4:(0:F)<=(b:F):=E;have Zg:(b:F)<(i:F):=E;obtain⟨D,N,_⟩:=t.cellAt G;go_wp2_with fail;refine(G1 b Z5 Z6 ZW j _ E Zk (λ b u=>ZH.o b (by rw[ZO.o];exact u)) (ZF.o b Zs T)).mono ?_;rintro n Zf ⟨⟨A,rfl,S,YZ⟩,rfl⟩;have ZM:=gO A E;rw[S] at G D N;rw[S] at z;obtain⟨w,Z3⟩:∃w,2^A=w:=⟨_,I⟩;have Y1:wrap64 (2^A)=(w:F):=by rw[ZM,Z3]
   rw[Z3] at G D N z;have ZD:U (bF (λ g=>df j g) l i (b+1)=(bF (λ g=>df j g) l i b).set w (O (bF (λ g=>df j g) l i b) w+O l b)):=by
    rw[U,<- Z3,<- S];rfl
   clear ZM S;go_wp2;refine ei 13 ah ah (λ _ _ _ _ _ x=>x) ?_;refine dY ?_;repeat (first | go_big_quiet_step ((fail)) | quiet_step ((fail)))
   refine et ?_;intro L k;refine ou ?_;intro K N D;obtain⟨YT,ZK,Zm,ZP⟩:=dC K G (O (bF (λ g=>df j g) l i b) w+O l b);have Zj:p.heap.size<=L.heap.size:=by have:=m.size;have:=k.size;omega
   have Zu:=ab (iD (m.trans (k.mono (by have:=m.size;omega))) Zj ZP aZ);have ZC:=ab ZK;clear ZK ZP K t k Zn;go_wp2;rw[ZC.o];go_roundw
   case rel=>exact⟨b+1,E,E,by go_num,by rw[ZD.o];exact Zm,Zu.o⟩
   case measure=>simp[intOf];omega
  ·have Zr:b=i:=E;subst Zr;have ZV:=dL m E c;have ZU:=dL m E d;have Zb:=dL m E X;have ZT:=q6 m E e;have ZS:=q6 m E f;obtain⟨Ze,YV,Zc,ZA,Zt⟩:=t.ints;injection ZA with Zz Zy Zx
   subst Zz Zy Zx;have ZI:=ab (λ Z9 (Y5:Z9<b)=>(by have:=ZX.o b aZ Z9;omega:0<=O (bF (λ g=>df j g) l b b) Z9 /\ O (bF (λ g=>df j g) l b b) Z9<=4000000000000000000));have YX:a.heap.size+1<wr.heap.size:=by have:=m.size;omega
   clear c d e f Y X;go_wp2_with fail;refine(hk _ _ _ _ _ _ Zt Zo ZI.o).mono ?_;refine k2 ?_;intro Z7 H Q P B y Z8;have c:=ZV;have d:=ZU;have e:=ZT;have f:=ZS;clear ZV ZU ZT ZS;refine kY ?_;intro e f c d;have Y9:=au q y;go_wp2;refine aK (by simp[aJ,results185,go_sem,c,d]) I ⟨⟨_,I,((B.setBelow E _).setBelow E _).mono E⟩,?_⟩;exact aD
theorem aA.grown2 {e d:J} {f g h:af} {j:Option J} (b:aA e d f g) (c:g.grownBy h j) (m:∀a,j=Z a->(e<=a /\ a<d) \/ f.heap.size<=a):aA e d f h :=
 ⟨c.os.trans b.os,c.tape.trans b.tape,c.output.trans b.output,ez b.size c.size,λ a i l=>(c.block a (cm i b.size) (λ k=>by have:=m a k.symm;omega)).trans (b.block a i l)⟩
theorem KE:(prog.info? 29).map (λ a=>(a.zero,a.size,a.bytes))=Z (Z (am 0 aj 0 0),2,32):=ah
theorem pg (a b:J):((ad a 0):Addr).add b=(ad a b):=by unfold Addr.add;split<;>simp_all
structure da (w:af) (base:J) (v:ay) (n:J) (t:J->F) (p:J->ac):Prop where
 own:∃(vals:aU ay) (u:J->ay),w.ownsRow base 29 2 v n vals /\ (∀k,k<n->vals[k*2]? =Z (M (t k)) /\ vals[k*2+1]? =Z (u k) /\ av w base (u k) (p k) /\ ∀b,(u k).ownBlock=Z b->v.ownBlock≠Z b) /\ ∀i j,i<j->j<n->∀b,(u i).ownBlock=Z b->(u j).ownBlock≠Z b
structure kQ (w:af) (ao:aG) (n:J) (t:J->F) (p:J->ac):Prop where
 cap:n<=9223372036854775807
 cell:0<n->∃b,ao=Z (ad b 0) /\ b<w.heap.size /\ ∀k,k<n-> w.cell? ⟨b,k*2,aj⟩=Z (M (t k)) /\ ∃a' n' c',w.cell? ⟨b,k*2+1,aj⟩=Z (aa a' n' c') /\ an w a' n' (p k)
theorem kQ.below {f w':af} {ao n t p} (e:kQ f ao n t p) (a:ap f w'):kQ w' ao n t p:=by
 refine⟨e.cap,λ q=>?_⟩;obtain⟨b,rfl,c,m⟩:=e.cell q;refine⟨b,I,cm c a.size,λ d o=>?_⟩;obtain⟨j,g,i,h,k,l⟩:=m d o;exact⟨(a.cell (p:=⟨b,d*2,aj⟩) c).trans j,g,i,h,(a.cell (p:=⟨b,d*2+1,aj⟩) c).trans k,l.below a⟩
theorem kQ.at {h b:af} {ao n t p} (i:kQ h ao n t p) (e:ap h b) {k:J} (q:k<n):
  ∃a c d g,ao=Z (ad a 0) /\ a<h.heap.size /\ a<b.heap.size /\ b.cell? ⟨a,k*2,aj⟩=Z (M (t k)) /\ b.cell? ⟨a,k*2+1,aj⟩=Z (aa c d g) /\ an b c d (p k):=by
 obtain⟨a,rfl,f,o⟩:=i.cell E;obtain⟨j,c,d,g,l,m⟩:=o k q;exact⟨a,c,d,g,I,f,cm f e.size,(e.cell (p:=⟨a,k*2,aj⟩) f).trans j,(e.cell (p:=⟨a,k*2+1,aj⟩) f).trans l,m.below e⟩
theorem da.block {d:af} {b g:J} {c:ay} {t p} (e:da d b c g t p):∀a,c.ownBlock=Z a->b<=a /\ a<d.heap.size:=by
 obtain⟨i,h,f,_⟩:=e.own;exact fs f
theorem da.below {g w':af} {b e:J} {f:ay} {t p} (c:da g b f e t p) (d:ap g w'):da w' b f e t p:=by
 have q:=c.block;obtain⟨u,s,m,n,o⟩:=c.own;exact⟨u,s,jZ m (λ a h=>d.block a (q a h).2),λ a r=>by obtain⟨i,j,k,l⟩:=n a r;exact⟨i,j,k.below d,l⟩,o⟩
theorem da.span {l d:af} {c w h j:J} {k:ay} {t p} (f:da l c k j t p) (i:aA w h l d) (z:h<=c):da d c k j t p:=by
 have g:=f.block;obtain⟨y,x,r,s,u⟩:=f.own;exact⟨y,x,jZ r (λ a b=>i.block a (g a b).2 (by have:=(g a b).1;omega)),λ a v=>by obtain⟨n,o,e,q⟩:=s a v;exact⟨n,o,aA.row i e (λ m b=>by have:=(e.block m b).1;omega),q⟩,u⟩
theorem da.grown {o f:af} {e k:J} {n:ay} {t p} {l:Option J} (g:da o e n k t p) (i:o.grownBy f l) (j:∀b,l=Z b->b<e):da f e n k t p:=by
 have h:=g.block;obtain⟨z,m,u,v,w⟩:=g.own;refine⟨z,m,jZ u (λ a c=>i.block a (h a c).2 (λ d=>by have:=j a d.symm;have:=(h a c).1;omega)),λ a x=>?_,w⟩;obtain⟨q,r,d,s⟩:=v a x;refine⟨q,r,d.grown i ?_,s⟩;cases y:(m a).ownBlock with
 | none=>exact bj I
 | some b=>exact aP (λ c=>by have:=j b c.symm;have:=(d.block b y).1;omega)
theorem da.mono {e:af} {base base' c:J} {d:ay} {t p} (m:da e base d c t p) (b:base'<=base):da e base' d c t p:=by
 obtain⟨x,w,a,n,o⟩:=m.own;exact⟨x,w,⟨a.1,a.2.imp id λ ⟨l,f,g,s,u,v⟩=>⟨l,f,g,s,ez b u,v⟩⟩,λ r q=>by obtain⟨h,i,j,k⟩:=n r q;exact⟨h,i,j.mono b,k⟩,o⟩
theorem da.congr {f:af} {d b:J} {e:ay} {t p t' p'} (g:da f d e b t p) (l:∀a,a<b->t' a=t a) (k:∀a,a<b->p' a=p a):da f d e b t' p':=by
 obtain⟨n,m,h,i,j⟩:=g.own;exact⟨n,m,h,λ a c=>by rw[l a c,k a c];exact i a c,j⟩
theorem da.nil (b:af) (a:J) (t p):da b a (aa aj 0 0) 0 t p:=⟨[],λ _=>undef,⟨I,bj ⟨I,I⟩⟩,λ g d=>E,λ e f _ c=>E⟩
theorem da.lit (a:af) (t p):da (a.alloc (al #[] 29)) a.heap.size (aq a.heap.size 0 0) 0 t p :=
 ⟨[],λ _=>undef,fF a #[] 0 aZ (by unfold maxLen;omega) I,λ f c=>E,λ d e _ b=>E⟩
theorem da.form {m:af} {r c:J} {l:ay} {t p} (h:da m r l c t p):∃e s,l=aa e c s /\ kQ m e c t p:=by
 obtain⟨N,M,b,z,_⟩:=h.own;have k:c<=maxLen:=by
  rcases b.2 with ⟨_,i⟩ | ⟨a,u,v,L,B,j,F,A,_⟩<;>omega
 rcases b.2 with ⟨rfl,i⟩ | ⟨a,u,v,rfl,B,j,F,A,H,K⟩
 ·exact⟨aj,0,by rw[i],by unfold maxLen at k;omega,λ h=>E⟩
 ·refine⟨_,_,I,by unfold maxLen at k;omega,λ _=>⟨a,I,lt_of_block j,λ d D=>?_⟩⟩;obtain⟨w,x,G,_⟩:=z d D;have f:=iN b (g:=a) I (d*2) _ w;have g:=iN b (g:=a) I (d*2+1) _ x;obtain⟨n,q,o,y,C⟩:=G.ints;rw[pg] at f g;exact⟨f,n,q,o,by rw[g,y],C⟩
theorem da.form2 {e:af} {c b:J} {d:ay} {t p} (h:da e c d b t p) (l:0<b):∃a g,d=aq a b g /\ c<=a /\ a<e.heap.size:=by
 obtain⟨n,m,f,_⟩:=h.own;exact v5
theorem zM {g:af} {Z8:bg bD} {rest:aU bD} {z:bD} {v:Act} {Q:Exit->Act->af->Prop} (Z0:z.guard=aj) (L N:Operand)
  (ZU:z.op=.call {callee:=.builtin .append,args:=#[L,N],argTypes:=#[97,97]})
  (t:af) (h:J) (j:ay) (o:F) (d:aU (ac)) (n:J) (ZX:d.length=n) (ZS:v.eval L=j) (S:da t h j n (λ _=>o) (aO d)) (C:ap t g)
  (u R:J) (l:ay) (Z6:ac) (ZP:v.eval N=aq u 1 R) (ZW: g.cell? (ad u 0)=Z (M o)) (ZV: g.cell? (ad u 1)=Z l) (x:av g t.heap.size l Z6)
  (ZB:n<1000000) (Z1:h<=t.heap.size)
  (Z3:∀e q m,da m h (aq e (n+1) q) (n+1) (λ _=>o) (aO (d++[Z6]))->g.grownBy m j.ownBlock->h<=e->(j.ownBlock=Z e \/ g.heap.size<=e)->wpList prog Z8 Q rest (v.put z.dst (aq e (n+1) q)) m):
  wpList prog Z8 Q (z::rest) v g:=by
 obtain⟨ZK,ZZ,ZO,ZN,ZM⟩:=info_parts KE;subst ZX;have D:=S.block;have ZC:=C.size;obtain⟨s,r,ZJ,ZI,ZH⟩:=S.own;have T:g.ownsRow h 29 2 j d.length s:=jZ ZJ (λ b c=>C.block b (D b c).2);have U:∀b,b<d.length->s[b*2]? =Z (M o) /\ s[b*2+1]? =Z (r b) /\ av g h (r b) (aO d b) /\ (∀a,(r b).ownBlock=Z a->j.ownBlock≠Z a) /\ ∀a,(r b).ownBlock=Z a->a<t.heap.size:= λ b W=>by
  obtain⟨A,i,f,B⟩:=ZI b W;exact⟨A,i,f.below C,B,λ a c=>(f.block a c).2⟩
 have ZR:∀a,l.ownBlock=Z a->j.ownBlock≠Z a:= λ a c f=>by have:=(x.block a c).1;have:=(D a f).2;omega
 have ZT:l.oneCell'=ae:=by obtain⟨ZF,ZD,ZE,c,_⟩:=x.ints;subst c;rfl
 refine wpList_plain Z0 λ _ Z2=>wp_append_lies g L N 97 ZU h 29 ZK (am 0 aj 0 0) 2 32 underlying97 ZZ ZO ZN ZM I aX j d.length s ZS T (ad u 0) 1 R [M o,l] ZP I ?_ ?_ aX (by unfold maxLen;omega) E E _ I λ e q m ZG Z7 K ZA=>Z2 _ _ (Z3 e q m ?_ Z7 (by rcases K with c | c;exact(D e c).1;omega) (by rcases K with c | c;exact bj c;exact aP E))
 ·intro y Z4 k
  match y,k with
  | 0,k=>simp at k;subst k;rw[pg];exact ZW
  | 1,k=>simp at k;subst k;rw[pg];exact ZV
 ·intro Z4 P;simp at P;rcases P with rfl | rfl;rfl;exact ZT
 ·have Z9:∀p O,av g h p O->(∀a,p.ownBlock=Z a->j.ownBlock≠Z a)->av m h p O /\ ∀a,p.ownBlock=Z a->(aa (Z (ad e 0)) (d.length+1) q).ownBlock≠Z a:= λ p O X Y=>by
   refine⟨X.grown Z7 ?_,λ a V c=>?_⟩
   ·cases ZL:p.ownBlock with
    | none=>exact bj I
    | some a=>exact aP (λ c=>Y a ZL c.symm)
   ·have i:e=a:=by have Z5:Z e=Z a:=c;injection Z5
    subst i;rcases K with f | f
    ·exact Y e V f
    ·have:=(X.block e V).2;omega
  have ZQ:=T.1
  refine⟨s++[M o,l],λ b=>if b<d.length then r b else l,ZG,λ b W=>?_,λ H y ZY k a=>?_⟩
  ·by_cases w:b<d.length
   ·obtain⟨A,i,f,B,_⟩:=U b w;rw[List.getElem?_append_left E,List.getElem?_append_left E,Is _ _ w];simp only[a7 w];exact⟨A,i,Z9 _ _ f B⟩
   ·obtain rfl:b=d.length:=E;rw[List.getElem?_append_right E,List.getElem?_append_right E,It,ZQ];have i:d.length*2+1-d.length*2=1:=E;rw[Nat.sub_self,i];simp only[aF w];exact⟨I,I,Z9 l _ (x.mono Z1) ZR⟩
  ·simp only[a7 (show H<d.length from E)];by_cases G:y<d.length
   ·simp only[a7 G];exact ZH H y ZY G a
   ·simp only[aF G];intro i f;have:=(U H E).2.2.2.2 a i;have:=(x.block a f).1;omega
def dX (a:F) (c b:ac):bc:=if ci a c&&c8 a b then dQ a c b else bc.no
theorem OG:∀a:Fin 1,c8 1 [(a.val:F)]=ae->jO 1 [(a.val:F)]=ae:=cS
theorem N5:∀a b:Fin 2,c8 2 [(a.val:F),b.val]=ae->jO 2 [(a.val:F),b.val]=ae:=cS
theorem N6:∀a b c:Fin 3,c8 3 [(a.val:F),b.val,c.val]=ae->jO 3 [(a.val:F),b.val,c.val]=ae:=cS
theorem N7:∀a b c d:Fin 4,c8 4 [(a.val:F),b.val,c.val,d.val]=ae->jO 4 [(a.val:F),b.val,c.val,d.val]=ae:=cS
theorem rs {h:F} {d:ac} (j:bK h=ae) (f:c8 h d=ae):g5 h.toNat d /\ d.length=h.toNat:=by
 obtain⟨l,k⟩:=oT j f;have g:d.length=h.toNat:=E;refine⟨?_,g⟩;rw[<- uR];have a:=k;rcases cG.1 j with rfl | rfl | rfl | rfl
 ·match d,g,a with
  | [b],_,a =>
   obtain⟨b,rfl⟩:=fP (n:=1) (a 0 ar)
   exact OG b f
 ·match d,g,a with
  | [b,c],_,a =>
   obtain⟨b,rfl⟩:=fP (n:=2) (a 0 ar)
   obtain⟨c,rfl⟩:=fP (n:=2) (a 1 ar)
   exact N5 b c f
 ·match d,g,a with
  | [b,c,e],_,a =>
   obtain⟨b,rfl⟩:=fP (n:=3) (a 0 ar)
   obtain⟨c,rfl⟩:=fP (n:=3) (a 1 ar)
   obtain⟨e,rfl⟩:=fP (n:=3) (a 2 ar)
   exact N6 b c e f
 ·match d,g,a with
  | [b,c,e,i],_,a =>
   obtain⟨b,rfl⟩:=fP (n:=4) (a 0 ar)
   obtain⟨c,rfl⟩:=fP (n:=4) (a 1 ar)
   obtain⟨e,rfl⟩:=fP (n:=4) (a 2 ar)
   obtain⟨i,rfl⟩:=fP (n:=4) (a 3 ar)
   exact N7 b c e i f
theorem nk {c:F} {a:ac} (b:ci c a=ae):aI c a=ae /\ O a 0=0:=by
 unfold ci at b;simpa using b
def dF:ac->J
 | []=>0
 | b::a=>dF a|||2^b.toNat
theorem J1 {b:ac} {a:J} (c:a<b.length):dF (b.drop a)=dF (b.drop (a+1))|||2^(O b a).toNat:=by
 rw[mH c];show dF (b.drop (a+1))|||2^(b[a]).toNat=_
 rw[cK _ _ c]
theorem Mp:∀a b c d:Fin 4,jO 4 [(a.val:F),b.val,c.val,d.val]=ae->(dq 4).contains [(a.val:F),b.val,c.val,d.val]=ae:=cS
theorem J2:∀a b c:Fin 3,jO 3 [(a.val:F),b.val,c.val]=ae->(dq 3).contains [(a.val:F),b.val,c.val]=ae:=cS
theorem J3:∀a b:Fin 2,jO 2 [(a.val:F),b.val]=ae->(dq 2).contains [(a.val:F),b.val]=ae:=cS
theorem CK {d:J} {e:ac} (t:1<=d) (u:d<=4) (j:e.length=d) (n:g5 d e):e∈dq d:=by
 have l:=uR.2 n;have c:∀a,a∈e->∃b:J,b<d /\ a=(b:F):= λ a p=>⟨a.toNat,by have:=n.1 a p;omega,by have:=n.1 a p;omega⟩
 rcases(show d=1 \/ d=2 \/ d=3 \/ d=4 from E) with rfl | rfl | rfl | rfl
 ·match e,j with
  | [a],_ =>
   obtain⟨b,f,rfl⟩:=c a ar
   obtain rfl:b=0:=E
   decide
 ·match e,j with
  | [a,i],_ =>
   obtain⟨b,f,rfl⟩:=c a ar
   obtain⟨g,h,rfl⟩:=c i ar
   have:=J3 ⟨b,f⟩ ⟨g,h⟩ l
   simpa using this
 ·match e,j with
  | [a,i,o],_ =>
   obtain⟨b,f,rfl⟩:=c a ar
   obtain⟨g,h,rfl⟩:=c i ar
   obtain⟨k,m,rfl⟩:=c o ar
   have:=J2 ⟨b,f⟩ ⟨g,h⟩ ⟨k,m⟩ l
   simpa using this
 ·match e,j with
  | [a,i,o,s],_ =>
   obtain⟨b,f,rfl⟩:=c a ar
   obtain⟨g,h,rfl⟩:=c i ar
   obtain⟨k,m,rfl⟩:=c o ar
   obtain⟨q,r,rfl⟩:=c s ar
   have:=Mp ⟨b,f⟩ ⟨g,h⟩ ⟨k,m⟩ ⟨q,r⟩ l
   simpa using this
theorem Et (a:F) (q y:aG) (v w D K:J) (d e:ac) (b:af) (B:an b q v d) (C:an b y D e):
  bp 165 #[am a q v w,aa y D K] b (dX a d e):=by
 have x:=B.below (w':=(b.alloc (al #[M a,aa q v w] 29)).alloc (al #[M 0,aa aj 0 0] 29)) ((az b _).alloc ar _);cases g:ci a d with
 | false =>
  have k:U (dX a d e=bc.no):=by show dX a d e=bc.no;unfold dX;rw[g];rfl
  rw[k.o]
  have p:=ab g
  clear g
  go_enter func165,ntmps165
  go_wp2_with fail
  refine(kp _ _ _ _ d _ x).mono ?_;rw[p.o];rintro l j ⟨rfl,c⟩
  obtain⟨f,Y,r,s⟩:=cj (b.heap.size+1) c ar
  have i:ap b j:=dz c
  clear c
  go_wp2
  refine aK (v:=aL #[am 0 aj 0 0,aw ak]) (by simp[aJ,results165,go_sem,f,Y]) I ⟨?_,?_⟩
  ·exact b1.no _ _
  ·exact bB
 | true =>
  have t:=(nk g).1
  have z:=(nk g).2
  have o:=(bt t).1
  have p:=ab g
  have G:=ab t
  cases n:c8 a e with
  | false =>
   have k:U (dX a d e=bc.no):=by show dX a d e=bc.no;unfold dX;rw[n];simp
   rw[k.o]
   clear g t z
   go_enter func165,ntmps165
   go_wp2_with fail
   refine(kp _ _ _ _ d _ x).mono ?_;rw[p.o];rintro l j ⟨rfl,c⟩
   obtain⟨f,Y,r,s⟩:=cj (b.heap.size+1) c ar
   have L:=aS c b.heap.size 0 (M a)
   have i:ap b j:=dz c
   have u:=C.below i
   clear c
   go_wp2_with fail
   refine(nv _ _ _ _ e _ u o).mono ?_;rw[(kz o).1,n];rintro l E ⟨rfl,rfl⟩
   go_wp2
   refine aK (v:=aL #[am 0 aj 0 0,aw ak]) (by simp[aJ,results165,go_sem,f,Y]) I ⟨?_,?_⟩
   ·exact b1.no _ _
   ·exact bB
  | true =>
   have k:U (dX a d e=dQ a d e):=by show dX a d e=_;unfold dX;rw[g,n];rfl
   rw[k.o]
   have H:=ab (rs o n).1
   clear g t z
   go_enter func165,ntmps165
   go_wp2_with fail
   refine(kp _ _ _ _ d _ x).mono ?_;rw[p.o];rintro l j ⟨rfl,c⟩
   obtain⟨f,Y,r,s⟩:=cj (b.heap.size+1) c ar
   have L:=aS c b.heap.size 0 (M a)
   have S:=aS c b.heap.size 1 (aa q v w)
   have T:b.heap.size+1<j.heap.size:=b6 f
   have i:ap b j:=dz c
   have u:=C.below i
   have N:=B.below i
   clear c
   go_wp2_with fail
   refine(nv _ _ _ _ e _ u o).mono ?_;rw[(kz o).1,n];rintro l E ⟨rfl,rfl⟩
   go_wp2_with fail
   refine(zI a _ _ _ _ _ _ d e _ N u G.o H.o).mono ?_
   rintro l X ⟨⟨W,rfl,A⟩,m⟩
   obtain⟨O,V,P,rfl,R⟩:=A.ints
   replace r:=aB m f r
   replace s:=aB m Y s
   replace f:=ag m f
   replace Y:=ag m Y
   have Q:=au i m
   go_wp2
   refine aK (by simp[aJ,results165,go_sem,f,Y]) I ⟨⟨_,I,((A.setBelow (by first | omega | (simp;omega)) _).setBelow (by first | omega | (simp;omega)) _).mono (by first | omega | (simp;omega))⟩,?_⟩
   exact bB
theorem DU (a:F) (p z:aG) (u v D L:J) (d e:ac) (b:af) (B:an b p u d) (C:an b z D e):
  bp 110 #[am a p u v,aa z D L] b (dX a d e):=by
 have y:=B.below (w':=(b.alloc (al #[M a,aa p u v] 29)).alloc (al #[M 0,aa aj 0 0] 29)) ((az b _).alloc ar _);cases g:ci a d with
 | false =>
  have k:U (dX a d e=bc.no):=by show dX a d e=bc.no;unfold dX;rw[g];rfl
  rw[k.o]
  have o:=ab g
  clear g
  go_enter func110,ntmps110
  go_wp2_with fail
  refine(iA _ _ _ _ d _ y).mono ?_;rw[o.o];rintro l j ⟨rfl,c⟩
  obtain⟨f,Z9,q,r⟩:=cj (b.heap.size+1) c ar
  have i:ap b j:=dz c
  clear c
  go_wp2
  refine aK (v:=aL #[am 0 aj 0 0,aw ak]) (by simp[aJ,results110,go_sem,f,Z9]) I ⟨?_,?_⟩
  ·exact b1.no _ _
  ·exact bB
 | true =>
  have s:=(nk g).1
  have w:=(nk g).2
  have x:=(bt s).1
  have o:=ab g
  have H:=ab s
  have G:=ab w
  cases n:c8 a e with
  | false =>
   have k:U (dX a d e=bc.no):=by show dX a d e=bc.no;unfold dX;rw[n];simp
   rw[k.o]
   clear g s w
   go_enter func110,ntmps110
   go_wp2_with fail
   refine(iA _ _ _ _ d _ y).mono ?_;rw[o.o];rintro l j ⟨rfl,c⟩
   obtain⟨f,Z9,q,r⟩:=cj (b.heap.size+1) c ar
   have N:=aS c b.heap.size 0 (M a)
   have i:ap b j:=dz c
   have t:=C.below i
   clear c
   go_wp2_with fail
   refine(nw _ _ _ _ e _ t x).mono ?_;rw[n];rintro l E ⟨rfl,rfl⟩
   go_wp2
   refine aK (v:=aL #[am 0 aj 0 0,aw ak]) (by simp[aJ,results110,go_sem,f,Z9]) I ⟨?_,?_⟩
   ·exact b1.no _ _
   ·exact bB
  | true =>
   have k:U (dX a d e=dQ a d e):=by show dX a d e=_;unfold dX;rw[g,n];rfl
   rw[k.o]
   have K:=ab (rs x n).1
   clear g s w
   go_enter func110,ntmps110
   go_wp2_with fail
   refine(iA _ _ _ _ d _ y).mono ?_;rw[o.o];rintro l j ⟨rfl,c⟩
   obtain⟨f,Z9,q,r⟩:=cj (b.heap.size+1) c ar
   have N:=aS c b.heap.size 0 (M a)
   have T:=aS c b.heap.size 1 (aa p u v)
   have V:b.heap.size+1<j.heap.size:=b6 f
   have i:ap b j:=dz c
   have t:=C.below i
   have O:=B.below i
   clear c
   go_wp2_with fail
   refine(nw _ _ _ _ e _ t x).mono ?_;rw[n];rintro l E ⟨rfl,rfl⟩
   go_wp2_with fail
   refine(An a _ _ _ _ _ _ d e _ O t H.o G.o K.o).mono ?_
   rintro l Y ⟨⟨X,rfl,A⟩,m⟩
   obtain⟨P,W,Q,rfl,S⟩:=A.ints
   replace q:=aB m f q
   replace r:=aB m Z9 r
   replace f:=ag m f
   replace Z9:=ag m Z9
   have R:=au i m
   go_wp2
   refine aK (by simp[aJ,results110,go_sem,f,Z9]) I ⟨⟨_,I,((A.setBelow (by first | omega | (simp;omega)) _).setBelow (by first | omega | (simp;omega)) _).mono (by first | omega | (simp;omega))⟩,?_⟩
   exact bB
def bm (b:J->a8) (a:J):F:=if b a then 1 else 0
theorem i3 (d:J->a8) (b:ac) (c:J) (e:∀a,a<c->0<=O b a /\ O b a<=1000000) (a:J) (i:a<=c):0<=a9 (bm d) b a /\ a9 (bm d) b a<=1000000*(a:F):=by
 induction a with
 | zero=>exact⟨fE _,by simp[a9,bx]⟩
 | succ a g =>
  have f:=g E
  have h:=e a E
  rw[gV]
  unfold bm
  unfold bm at f
  push_cast
  split
  ·rw[Int.one_mul];omega
  ·rw[j9];omega
theorem tQ (t:F) (l:aG) (b p:J) (c:ac) (i:FuncId) (q:bg ay) (f:J->a8) (j:af) (A:an j l b c)
  (G:∀(u:bg ay) (g:af),c9 prog (b0 i u) g=.ok (.enter i u) g)
  (s:∀(T:J) (g:af),ap j g->T<b->aY prog i (#[M T]++q) g λ r v=>r=aV (aw (f T)) /\ g=v)
  (L:b<=16) (n:∀a,a<b->0<=O c a /\ O c a<=1000000):
  aC 254 #[am t l b p,.func (.func i) #[] q] j (M (a9 (bm f) c b)):=by
 have x:=ab s;clear s;have y:=ab n;have w:=ab (i3 f c b n);clear n;have e:=az j (al #[M t,aa l b p] 29);go_enter func254,ntmps254;go_wp2;go_loop [5,6,7,11] (λ B _ _ o=>∃a:J,a<=b /\ o=M a /\ B=M (a9 (bm f) c a)) (λ _ _ _ o=>b-(intOf o).toNat)
 case atStart=>exact⟨0,E,I,I⟩
 case round =>
  obtain⟨a,z,rfl,rfl⟩:=hrel;by_cases m:a<b
  ·obtain⟨T,R,rfl,D,C,H⟩:=A.at e m;have N:=y.o a m;have Q:=w.o a z;have K:(a:F)<=16:=E;have k:U (a9 (bm f) c (a+1)=a9 (bm f) c a+(if f a then 1 else 0)*O c a):=rfl;go_wp2_with fail;refine(x.o a _ e m).mono ?_;rintro r S ⟨rfl,rfl⟩;cases d:f a
   ·go_wp2;exact kU
   ·go_wp2;exact kU
  ·exact oa
theorem tS:∀b a:Fin 16,(bits hZ cz ((a.val:J):F) ((b.val:J):F)==0)=decide (a.val&&&b.val=a.val):=cS
def cy (b:J) (a:J):a8:=decide (a&&&b=a)
theorem Iw (a b d:J) (c:af) (k:a<16) (i:b<16) (j: c.cell? (ad d 0)=Z (M a)):
  aY prog 324 #[M b,br d] c λ f e=>f=aV (aw (cy a b)) /\ c=e:=by
 have g:=tS ⟨a,k⟩ ⟨b,i⟩;go_enter func324,ntmps324;go_wp2;go_ret;exact⟨ct (by simp[cy,g]),I⟩
theorem G2 (c:bg ay) (a:af):c9 prog (b0 324 c) a=.ok (.enter 324 c) a:=by
 have g:(Tryz.f324.name== "runtime.NumGoroutine")=ak:=ah;have b:Tryz.f324.body.isNone=ak:=ah;have d:¬Tryz.f324.name= "runtime.NumGoroutine" :=by simpa using g
 have e:¬Tryz.f324.body=aj:=by intro f;rw[f] at b;simp at b
 simp only[b0,eC,run_program,ex,func324,cR,eB,aF d,aF e,ey]
theorem tr (j:F) (a:J) (e:aG) (b t:J) (c:ac) (d:af) (p:an d e b c) (n:a<16) (o:b<=16) (i:∀g,g<b->0<=O c g /\ O c g<=1000000):
  aC 252 #[am j e b t,M a] d (M (a9 (bm (cy a)) c b)):=by
 have l:=ab i;clear i;go_enter func252,ntmps252;go_wp2_with fail;refine(tQ j e b t c 324 _ (cy a) _ (p.below aD) G2 ?_ o l.o).mono ?_
 ·intro m k f r;exact Iw a m (d.heap.size+1) k n E (aS f (d.heap.size+1) 0 (M a))
 rintro q s ⟨rfl,f⟩;go_wp2;go_ret;exact⟨I,bJ f⟩
theorem Fk (d:F) (a:J) (C:aG) (f n:J) (c:ac) (l:af) (g:an l C f c) (k:aI d c=ae) (x:a<aH d):
  aC 143 #[am d C f n,M a] l (M (a9 (bm (cy a)) c f)):=by
 obtain⟨t,r,o,b,_⟩:=bt k;have z:=g.len;have q:bi 0 ((aH d:F)-1) a=ae:=bM.2 E;have m:U (∀e,e<f->0<=O c e /\ O c e<=1000000):= λ e y=>b e E
 have s:f<=16:=E;have p:a<16:=E;clear b r o;go_enter func143,ntmps143;go_wp2_with fail;refine(cn _ _ _ _ c _ (g.below aD)).mono ?_;rw[k];rintro i A ⟨rfl,b⟩;obtain⟨v,w,j⟩:=dZ b;clear b;go_wp2_with fail;refine(fh d a _ t).mono ?_;rw[q];rintro i u ⟨rfl,rfl⟩;go_wp2_with fail;refine(tr d a _ _ _ c _ (g.below j) p s m.o).mono ?_;rintro i B ⟨rfl,b⟩;go_wp2;go_ret;exact⟨I,au j b⟩
theorem rb {a:ac} {b:J} (c:a.length=b):aW a=a9 (λ _=>1) a b:=by rw[nL,c]
theorem J4:∀b:Fin 5,∀a:Fin (2^b.val),a.val≠0->∃c:Fin b.val,bZ a.val c.val=ae:=aX
def eg (a b:ac):F:=bS 1000 a b a.length
theorem Mq {a:F} (b:bK a=ae):1<=a.toNat /\ a.toNat<=4 /\ aH a=2^a.toNat:=by
 rcases cG.1 b with rfl | rfl | rfl | rfl<;>exact⟨aX,aX,rfl⟩
theorem ln {a:F} {b:ac} (g:ci a b=ae):1<=a.toNat /\ a.toNat<=4 /\ b.length=2^a.toNat /\ O b 0=0 /\ aI a b=ae /\ (a.toNat:F)=a:=by
 obtain⟨c,h⟩:=ub g;obtain⟨i,j,_⟩:=bt c;obtain⟨d,e,f⟩:=Mq i;exact⟨d,e,by rw[j,f],h,c,E⟩
theorem MP {c:J} {d:ac} (m:c<=4) (f:g5 c d) {a:J} (i:a<2^c) (h:a≠0):∃b,b<c /\ bZ a b=ae /\ df d a=2^b:=by
 obtain⟨e,l⟩:=J4 ⟨c,E⟩ ⟨a,i⟩ h;obtain⟨b,k,j,g⟩:=F9 d a ⟨(e.val:F),f.2 e.val e.isLt,l⟩;have:=f.1 b k;exact⟨b.toNat,E,j,g⟩
theorem JC:∀a:Fin 4,hK (2^a.val)=ae:=aX
theorem qG {d:F} {a b:ac} (w:ci d a=ae) (x:g5 d.toNat b):∃g:F,1<=g /\ (dQ d a b).ok=ae /\ (dQ d a b).size=d /\ (dQ d a b).parts.length=a.length /\
  aI d (dQ d a b).parts=ae /\ (∀e,g*a9 e (dQ d a b).parts a.length=a9 (λ c=>e (df b c)) a a.length) /\ g*aW (dQ d a b).parts=aW a:=by
 obtain⟨D,G,t,B,v,_⟩:=ln w;obtain⟨s,u,C,q,H,I,_⟩:=bt v;have r:∀c,c<a.length->0<=O a c /\ O a c<=1000000:= λ c p=>q c p
 have o:∀c,c<a.length->df b c<a.length:= λ c _=>by rw[t];exact tO b d.toNat c x.1
 have j:∀e,a9 e (ki b a a.length) a.length=a9 (λ c=>e (df b c)) a a.length:= λ e=>uk e _ a a.length a.length o
 have f:(ki b a a.length).length=a.length:=jV _ _ _ _;have y:aW (ki b a a.length)=aW a:=by rw[rb f,j,rb rfl]
 have z:=Hm (xs:=ki b a a.length) s (by rw[f,u]) (λ A _=>(mh _ a a.length a.length 1000000 aX r a.length aZ A).1) E E;have k:=z.1;obtain⟨l,m,h,n,i⟩:=pc k;rw[f] at h i;refine⟨_,l,k,m,h,n,λ e=>by rw[<- j];exact i e,?_⟩;have:=i λ _=>1
 rw[<- rb f,y] at this;rw[rb (show (dQ d a b).parts.length=a.length from h)];exact this
theorem Bk {e:F} {a c:ac} (k:ci e a=ae) (l:g5 e.toNat c) {j:J} (q:j<a.length) (m:hK j=ak):O (dQ e a c).parts j=0:=by
 obtain⟨z,s,w,n,x,_⟩:=ln k;obtain⟨f,v,_,_,_,_,p,_⟩:=qG k l;have g:=p (ix j);have o:a9 (λ b=>ix j (df c b)) a a.length=0:=by
  rw[<- oZ (λ _=>0) a.length a.length];have:a9 (λ b=>ix j (df c b)) a a.length=a9 (λ _=>0) a a.length:=BN _ _ λ b u=>by
   by_cases i:b=0
   ·subst i;rw[n];simp
   ·obtain⟨t,y,_,f⟩:=MP s l E i;have:df c b≠j:=by
     rw[f];rintro rfl;have:=JC ⟨t,E⟩;simp only at this;rw[this] at m;cases m
    unfold ix;rw[aF this]
  rw[this];have:∀d,a9 (λ _=>0) a d=0:= λ d=>by
   induction d with
   | zero=>rfl
   | succ d r=>rw[gV,r];simp
  rw[this,oZ]
 rw[nJ,a7 q,o] at g;rcases Int.mul_eq_zero.1 g with h | h
 ·omega
 ·exact h
theorem GL {a:F} {c e:ac} (b:ci a c=ae) (d:g5 a.toNat e):gN a (dQ a c e).parts=ae /\ ci a (dQ a c e).parts=ae:=by
 obtain⟨q,r,g,m,p,_⟩:=ln b;obtain⟨k,n,_,_,l,f,_⟩:=qG b d;have h:0<c.length:=by rw[g];exact Nat.two_pow_pos _
 constructor
 ·unfold gN;rw[f,eo,cp];intro j o;cases i:hK j
  ·rw[Bk b d E i];rfl
  ·rw[Bool.or_true]
 ·unfold ci;rw[f,Bk b d (j:=0) h aX];rfl
def DE (a b:ac):Prop:=b.Pairwise λ c d=>O a c.toNat<=O a d.toNat
theorem Mr (d:J) (i:1<=d) (m:d<=4) (f:ac):∃j,j∈dq d /\ DE f j:=by
 let b:F->F->a8:= λ e c=>decide (O f e.toNat<=O f c.toNat)
 let a:ac:=(cN d).map λ q=>((q:J):F)
 have g:=List.mergeSort_perm a b;have n:(a.mergeSort b).Pairwise λ e c=>b e c=ae:=List.pairwise_mergeSort (λ h k r i s=>by simp[b] at *;omega) (λ h k=>by simp[b];omega) a
 refine⟨a.mergeSort b,CK i m (by rw[g.length_eq];simp[a]) ⟨λ e o=>?_,λ c p=>?_⟩,n.imp λ l=>by simpa [b] using l⟩
 ·have:=g.mem_iff.1 o;simp[a] at this;obtain⟨h,t,rfl⟩:=this;omega
 ·exact g.mem_iff.2 (by simp[a];exact⟨c,p,I⟩)
theorem Az {a:F} {e g:ac} (i:ci a e=ae):g∈co a e↔∃d,d∈dq a.toNat /\ (dQ a e d).parts=g:=by
 unfold co;rw[a7 i,Bh];constructor
 ·rintro⟨f,c,b⟩;exact⟨_,nH c,b⟩
 ·rintro⟨d,j,b⟩;obtain⟨f,c,h⟩:=uy j;exact⟨f,c,by rw[h];exact b⟩
theorem Ix {a:F} {b:ac} {g:J} (d:g<(co a b).length):ci a b=ae /\ ∃c,c∈dq a.toNat /\ g5 a.toNat c /\ aO (co a b) g=(dQ a b c).parts:=by
 have e:ci a b=ae:=by
  cases i:ci a b
  ·unfold co at d;rw[i] at d;simp at d
  ·rfl
 obtain⟨c,f,h⟩:=(Az e).1 (nH d);exact⟨e,c,f,ul (ln e).2.1 f,h.symm⟩
theorem Ao {a:F} {c:ac} (b:ci a c=ae):1<=(co a c).length:=by
 obtain⟨f,g,_⟩:=ln b;obtain⟨e,d,_⟩:=Mr a.toNat f g [];have:=(Az b).2 ⟨e,d,I⟩;obtain⟨i,h,_⟩:=uy this;omega
end Go.Proofs.YtkjnhlpccgjfhaaGreatDoor
