/- A part of the proof: lemmas (my texts, shortened by a program of mine). -/
import Derived.Deep.RegionHeld3
import Derived.Test.YtkjnhlpccgjfhaaGreatDoorC16
import Derived.Test.YtkjnhlpccgjfhaaGreatDoorC17
import Derived.Test.YtkjnhlpccgjfhaaGreatDoorC25
set_option linter.all false
set_option maxRecDepth 100000
set_option maxHeartbeats 4000000
namespace Go.Proofs.YtkjnhlpccgjfhaaGreatDoor
open Go.RowKit
open Go.Proofs.Tryz
open Bool renaming false->ak,not_false->n4,not_true->nY,true->ae
open _root_.ByteArray renaming mk->aN
open Go renaming Calls->aY,Value->ay,World->af,bodyPost_ret->aK,callFunc->b0,results->aJ,wpQuiet_nil->dn
open Go.BinOp renaming andNot->hZ
open Go.Ending renaming returned->aV
open Go.IntKind renaming i64->cz
open Go.IntWalk renaming i64_in->bV
open Go.Obj renaming cells->al
open Go.Result renaming andThen_ok->ex
open Go.Sem renaming run->c9,run_bind->eC,run_pure->ey
open Go.Value renaming bool->aw,ownBlock->lL,slice->aa,string->aE,tuple->aL
open Go.World renaming cell?_setCell_same->fZ
open Int renaming toNat_natCast->cI
open List renaming length_append->dm,length_map->ec,replicate->bE
open Nat renaming le_trans->ez,or_lt_two_pow->kd,xor_lt_two_pow->rI
open Option renaming isNone_iff_eq_none->eB,none->aj,some->Z
open Or renaming inl->bj,inr->aP
open _root_ renaming Array->bg,Bool->a8,ByteArray->ch,Int->F,List->aU,Nat->J,beq_eq_false_iff_ne->dx,beq_iff_eq->cR,if_neg->aF,rfl->I
variable {p q:Prop}
theorem Dh {a e d:J} (f:a=2 \/ a=4 \/ a=8 \/ a=16) (c:e<a) (b:d<a):e|||d<a:=by
 rcases f with rfl | rfl | rfl | rfl
 ·exact kd (n:=1) c b
 ·exact kd (n:=2) c b
 ·exact kd (n:=3) c b
 ·exact kd (n:=4) c b
theorem C8 {a e d:J} (f:a=2 \/ a=4 \/ a=8 \/ a=16) (c:e<a) (b:d<a):e^^^d<a:=by
 rcases f with rfl | rfl | rfl | rfl
 ·exact rI (n:=1) c b
 ·exact rI (n:=2) c b
 ·exact rI (n:=3) c b
 ·exact rI (n:=4) c b
theorem Oh:∀a b:Fin 16,bits BinOp.or cz ((a.val:J):F) ((b.val:J):F)=((a.val|||b.val:J):F):=cS
theorem N9:∀a b:Fin 16,bits BinOp.xor cz ((a.val:J):F) ((b.val:J):F)=((a.val^^^b.val:J):F):=cS
theorem Di (a b:J) (c:a<16) (d:b<16):bits BinOp.or cz (a:F) (b:F)=((a|||b:J):F):=Oh ⟨a,c⟩ ⟨b,d⟩
theorem C9 (a b:J) (c:a<16) (d:b<16):bits BinOp.xor cz (a:F) (b:F)=((a^^^b:J):F):=N9 ⟨a,c⟩ ⟨b,d⟩
theorem qP {e:F} {a:ac} (b:aI e a=ae):a.length=2 \/ a.length=4 \/ a.length=8 \/ a.length=16:=by
 obtain⟨d,c,_⟩:=cv b;rcases cG.1 d with rfl | rfl | rfl | rfl<;>(rw[c];decide)
theorem HQ (a b:J) (c:af) (g:a<16) (i:b<16):
  aY prog 221 #[M a,M b] c λ e d=>e=aV (M ((λ a b=>a|||b) a b:J)) /\ c=d:=by
 have f:=Di a b g i;go_enter func221,ntmps221;go_wp2;go_ret;exact⟨gZ (by simp[f]),I⟩
theorem Gw (c:bg ay) (a:af):c9 prog (b0 221 c) a=.ok (.enter 221 c) a:=by
 have g:(Tryz.f221.name== "runtime.NumGoroutine")=ak:=ah;have b:Tryz.f221.body.isNone=ak:=ah;have d:¬Tryz.f221.name= "runtime.NumGoroutine" :=by simpa using g
 have e:¬Tryz.f221.body=aj:=by intro f;rw[f] at b;simp at b
 simp only[b0,eC,run_program,ex,func221,cR,eB,aF d,aF e,ey]
theorem H6 (l m:F) (i j:aG) (a o e p:J) (f g:ac) (h:af) (t:an h i a f) (v:an h j e g) (r:a<=16) (x:e<=a)
  (u:∀b,b<a->0<=O f b /\ O f b<=1000000) (w:∀b,b<e->0<=O g b /\ O g b<=1000000) (s:a=2 \/ a=4 \/ a=8 \/ a=16):
  db 220 #[am l i a o,am m j e p,.func (.func 221) #[] #[]] h (bN (λ c d=>c|||d) f g a e a) :=
 tK l m _ _ _ _ _ _ f g 221 (λ c d=>c|||d) h t v r E Gw u w (λ c d k q=>Dh s k E) (λ c d n k q=>HQ c d n E E)
theorem Fc (g q:F) (s t:aG) (m y b z:J) (n o:ac) (a:af) (Z8:an a s m n) (Z6:an a t b o):
  bp 123 #[am g s m y,am q t b z] a (ck (λ k r=>k|||r) g n q o):=by
 have X:Below a.heap.size a (((a.alloc (al #[M g,aa s m y] 29)).alloc (al #[M q,aa t b z] 29)).alloc (al #[M 0,aa aj 0 0] 29)):=((az a _).alloc ar _).alloc bO _;cases B:cJ g n q o
 ·have Z4:=ab (oO (T:= λ k r=>k|||r) B);rw[Z4.o];go_enter func123,ntmps123;go_wp2_with fail;refine hj ?_;refine iV ?_;intro u c d e f l;go_wp2;refine aK (v:=aL #[am 0 aj 0 0,aw ak]) (by simp[aJ,results123,go_sem,c,d]) I ⟨?_,?_⟩
  ·exact b1.no _ _
  ·exact bB
 ·obtain⟨A,S,ZS,Y⟩:=fN B;clear ZS;refine ib ?_;intro Q Z9 T;subst T;have Z3:b=2 \/ b=4 \/ b=8 \/ b=16:=by have:=qP A;rw[Q.o] at this;exact this
  have ZW:=ab Z3;clear Z3;refine kn ?_;intro j L R;refine iX ?_;intro ZZ Z1 K N P;have ZX:U (∀p,p<b->0<=O (bN (λ k r=>k|||r) n o b b b) p /\ O (bN (λ k r=>k|||r) n o b b b) p<=4000000000000000000):= λ p _=>by
   have:=jY (λ k r=>k|||r) n o b b b K N.o P.o b aZ p;omega
  have Z4:U (ck (λ k r=>k|||r) g n q o=bh g (bN (λ k r=>k|||r) n o b b b)):=by rw[U];unfold ck;rw[B,Q.o,Z9.o];rfl
  rw[Z4.o];clear Y L R j;go_enter func123,ntmps123;go_wp2_with fail;refine hj ?_;refine iW ?_;intro u i c d e f D G C H l;refine m5 ?_;intro Z7 W;clear i;go_wp2;go_region_held3 (λ Z5=>Z5.cell? (ad a.heap.size 0)=Z (M g) /\ Z5.cell? (ad a.heap.size 1)=Z (aa s b y) /\ Z5.cell? (ad (a.heap.size+1) 0)=Z (M q) /\ Z5.cell? (ad (a.heap.size+1) 1)=Z (aa t b z)) (first | (refine⟨by assumption,by assumption,by assumption,by assumption⟩;done) | (refine⟨by simp[*],by simp[*],by simp[*],by simp[*]⟩;done) | go_keep) (first | (go_at_call 220;refine(H6 g q _ _ _ _ _ _ n o _ ((Z8.below l).below (bI _)) ((Z6.below l).below (bI _)) K aZ N.o P.o ZW.o).mono ?_;rintro V ZD ⟨⟨ZM,rfl,ZT⟩,ZV⟩;obtain⟨ZK,ZN,ZI,rfl,ZY⟩:=ZT.ints;have ZU:ZN=b:=(by rw[<- ZY.len];exact jj _ _ _ _ _ _);subst ZU;have v:=au (bI u) ZV;have ZR:=ag v D;have ZQ:=ag v G;have ZP:=ag v C;have ZO:=ag v H;have e:=aB v c e;have f:=aB v d f;have c:=ag v c;have d:=ag v d) | (go_at_call 218;refine(jl g _ _ _ _ _ ZY K ZX.o).mono ?_;rintro V ZC ⟨⟨ZM,rfl,Z2⟩,x⟩;obtain⟨ZL,ZE,ZJ,rfl,ZG⟩:=Z2.ints;have w:=au v x;have ZR:=ag w D;have ZQ:=ag w G;have ZP:=ag w C;have ZO:=ag w H;have e:=aB x c e;have f:=aB x d f;have c:=ag x c;have d:=ag x d));all_goals
   have ZH:=au l w;have ZF:=v.size;go_wp2;refine aK (by simp[aJ,results123,go_sem,c,d]) I ⟨⟨_,I,((Z2.setBelow (by simp;omega) _).setBelow (by simp;omega) _).mono E⟩,?_⟩;exact bB
theorem OU {d:J->J->J} (g:d= λ a b=>a|||b) {c:J} (h:c=2 \/ c=4 \/ c=8 \/ c=16):(∀a b:J,a<16->b<16->bits BinOp.or cz (a:F) (b:F)=((d a b:J):F)) /\ ∀a b:J,a<c->b<c->d a b<c:=by
 subst g;exact⟨λ a b e f=>Di a b e f,λ a b e f=>Dh h e f⟩
theorem OT {d:J->J->J} (g:d= λ a b=>a^^^b) {c:J} (h:c=2 \/ c=4 \/ c=8 \/ c=16):(∀a b:J,a<16->b<16->bits BinOp.xor cz (a:F) (b:F)=((d a b:J):F)) /\ ∀a b:J,a<c->b<c->d a b<c:=by
 subst g;exact⟨λ a b e f=>C9 a b e f,λ a b e f=>C8 h e f⟩
theorem Dw (Z1:ch) (d:J->J->J) (Zw:(Z1=⟨#[111,114]⟩ /\ d= λ W C=>W|||C) \/ (Z1=⟨#[120,111,114]⟩ /\ d= λ W C=>W^^^C)) (Zu Zt:F) (Y Z9:aG) (g ZZ e ZY:J) (f i:ac) (a:af) (ZP:an a Y g f) (ZO:an a Z9 e i) (Y7:g<=16) (Y9:e<=g)
  (Z4:∀b,b<g->0<=O f b /\ O f b<=1000000) (Z3:∀b,b<e->0<=O i b /\ O i b<=1000000) (H:g=2 \/ g=4 \/ g=8 \/ g=16):
  db 81 #[am Zu Y g ZZ,am Zt Z9 e ZY,aE Z1] a (bN d f i g e g):=by
 rcases Zw with ⟨rfl,D⟩ | ⟨rfl,D⟩
 all_goals
  first | (have S:=ab (OU D H)) | (have S:=ab (OT D H))
  clear D;have Zf:=ZP.cap;have Ze:=ZO.cap;have Zz:e<=16:=E;have Zm:=ab H;clear H;have ZB:=ab Z4;have N:=ab Z3;have ZG:=ab (jY d f i g g e Zz Z4 Z3);clear Z4 Z3;go_enter func81,ntmps81;go_wp2_with (at_make;refine e6 I _ _ I g _ _ I I I I E ?_;intro x ZQ G ZN;(have ZT:=aS G a.heap.size 1 (aa Y g ZZ));(have ZR:=aS G (a.heap.size+1) 1 (aa Z9 e ZY)));have R:ap a x:=dz G;have ZE:av x (a.heap.size+1+1) (aq (a.heap.size+1+1) g g) (bE g 0):=by simpa using ZQ
  have ZD:a.heap.size+1+1<x.heap.size:=by simpa using ZN
  clear ZQ G ZN;go_loopw [8] (λ s wr=>∃b:J,b<=g /\ s=M b /\ av wr (a.heap.size+1+1) (aq (a.heap.size+1+1) g g) (bN d f i g e b) /\ Below (a.heap.size+1+1) x wr /\ a.heap.size+1+1<wr.heap.size) (λ s _=>g-(intOf s).toNat)
  case atStart=>exact⟨0,E,I,ZE,Below.refl _ _,ZD⟩
  case round =>
   obtain⟨b,ZF,rfl,n,m,Zv⟩:=hrel;refine l1 ?_;intro q;have Zo:=dL m E ZT;have Zn:=dL m E ZR;by_cases Z6:b<g
   ·have v:=ZB.o b Z6;refine zi ?_;intro j K w o n Z0 y;go_wp2;obtain⟨ZM,rfl⟩:∃ZM:af,ZM=wr:=⟨_,I⟩;go_loopw [9] (λ s Z2=>∃c:J,c<=e /\ s=M c /\ av Z2 (a.heap.size+1+1) (aq (a.heap.size+1+1) g g) (dh d f i b j c) /\ Below (a.heap.size+1+1) x Z2 /\ a.heap.size+1+1<Z2.heap.size) (λ s _=>e-(intOf s).toNat)
    case atStart=>exact⟨0,E,I,n,m,Zv⟩
    case round =>
     obtain⟨c,z,rfl,r,l,X⟩:=hrel;have ZX:ap a wr:=R.trans (l.mono E);have Y6:=dL l E ZT;have Y5:=dL l E ZR;by_cases ZU:c<e
     ·obtain⟨C,Y4,rfl,Zh,Zs,Zd⟩:=ZP.at ZX Z6;obtain⟨Zl,Y3,rfl,Zg,Zr,Zc⟩:=ZO.at ZX ZU;have ZS:=N.o c ZU;have Zx:=mq b c E E;obtain⟨Y2,ZC⟩:∃p:J,U ((b&&&c:J)=p):=⟨_,I⟩;rw[ZC.o] at Zx;have Z8:d b c<g:=S.o.2 b c Z6 E;obtain⟨p,V⟩:∃p:J,U (d b c=p):=⟨_,I⟩;have Zy:=S.o.1 b c E E;rw[V.o] at Zy;rw[V.o] at Z8;have Y8:=qX _ _ v.1 v.2 ZS.1 ZS.2;have Zi:=y.o c z p;have Za:(b:F)<=16:=E;have Zb:(c:F)<=16:=E;have Y0:U (dh d f i b j (c+1)=(dh d f i b j c).set p (O (dh d f i b j c) p+O f b*O i c)):=by rw[<- V.o];rfl
      obtain⟨Z7,ZV,_⟩:=r.cellAt Z8;have Zk:(0:F)<=(p:F):=E;have Zj:((p:J):F)<(g:F):=E;refine mS ?_;intro t u;have Zq:(0:F)<=(c:F):=E;have Zp:(c:F)<(e:F):=E;go_wp2;refine ei 19 ah ah (λ _ _ _ _ _ ZA=>ZA) ?_;refine dY ?_;repeat (first | go_big_quiet_step ((fail)) | quiet_step ((fail)))
      refine et ?_;intro L k;have B:=r.below k;replace ZV:=aB k Z7 ZV;replace Z7:=ag k Z7;obtain⟨ZW,T,Z5,A⟩:=dC B Z8 (O (dh d f i b j c) p+O f b*O i c);exact xy
     ·have Q:c=e:=E;exact sz
   ·exact sb
theorem Gx (i j:F) (g h:aG) (a m c n:J) (d e:ac) (f:af) (r:an f g a d) (t:an f h c e) (p:a<=16) (o:c<=a)
  (s:∀b,b<a->0<=O d b /\ O d b<=1000000) (u:∀b,b<c->0<=O e b /\ O e b<=1000000) (q:a=2 \/ a=4 \/ a=8 \/ a=16):
  db 81 #[am i g a m,am j h c n,aE ⟨#[111,114]⟩] f (bN (λ k l=>k|||l) d e a c a) :=
 Dw _ _ (bj ⟨I,I⟩) i j _ _ _ _ _ _ d e f r t p o s u q
theorem HR (a b:F) (g i:aG) (l r k s:J) (d e:ac) (c:af) (v:an c g l d) (x:an c i k e):
  bp 292 #[am a g l r,am b i k s,aE ⟨#[111,114]⟩] c (ck (λ p q=>p|||q) a d b e) :=
 u3 _ _ a b _ _ _ _ _ _ d e c v x λ o u m n=>by
  obtain⟨A,S,_,y⟩:=fN u;refine kn ?_;intro j L R;have w:=m.len;have z:=n.len;exact Gx a b _ _ _ _ _ _ d e o m n E E (λ f t=>L f E) (λ f t=>R f E) (by have:=qP A;rw[w] at this;exact this)
theorem DX (G i:F) (c d:aG) (g l f m:J) (j k:ac) (a:af) (v:an a c g j) (w:an a d f k):
  bp 193 #[am G c g l,am i d f m] a (ck (λ p r=>p|||r) G j i k):=by
 have n:Below a.heap.size a (((a.alloc (al #[M G,aa c g l] 29)).alloc (al #[M i,aa d f m] 29)).alloc (al #[M 0,aa aj 0 0] 29)):=((az a _).alloc ar _).alloc bO _;go_enter func193,ntmps193;go_wp2_with fail;refine(HR _ _ _ _ _ _ _ _ j k _ (v.below n) (w.below n)).mono ?_;rintro y o ⟨⟨D,rfl,b⟩,e⟩;obtain⟨q,x,s,rfl,C⟩:=b.ints;obtain⟨t,u,z,A⟩:=cj (a.heap.size+1+1) e ar;have B:ap a o:=dz e;replace b:av o (a.heap.size+1+1+1) (aa q x s) _:=b.mono ar;clear e;go_wp2;refine aK (by simp[aJ,results193,go_sem,t,u]) I ⟨⟨_,I,((b.setBelow ar _).setBelow ar _).mono E⟩,?_⟩;exact bB
theorem HS (a b:J) (c:af) (g:a<16) (i:b<16):
  aY prog 222 #[M a,M b] c λ e d=>e=aV (M ((λ a b=>a^^^b) a b:J)) /\ c=d:=by
 have f:=C9 a b g i;go_enter func222,ntmps222;go_wp2;go_ret;exact⟨gZ (by simp[f]),I⟩
theorem Gy (c:bg ay) (a:af):c9 prog (b0 222 c) a=.ok (.enter 222 c) a:=by
 have g:(Tryz.f222.name== "runtime.NumGoroutine")=ak:=ah;have b:Tryz.f222.body.isNone=ak:=ah;have d:¬Tryz.f222.name= "runtime.NumGoroutine" :=by simpa using g
 have e:¬Tryz.f222.body=aj:=by intro f;rw[f] at b;simp at b
 simp only[b0,eC,run_program,ex,func222,cR,eB,aF d,aF e,ey]
theorem H7 (l m:F) (i j:aG) (a o e p:J) (f g:ac) (h:af) (t:an h i a f) (v:an h j e g) (r:a<=16) (x:e<=a)
  (u:∀b,b<a->0<=O f b /\ O f b<=1000000) (w:∀b,b<e->0<=O g b /\ O g b<=1000000) (s:a=2 \/ a=4 \/ a=8 \/ a=16):
  db 220 #[am l i a o,am m j e p,.func (.func 222) #[] #[]] h (bN (λ c d=>c^^^d) f g a e a) :=
 tK l m _ _ _ _ _ _ f g 222 (λ c d=>c^^^d) h t v r E Gy u w (λ c d k q=>C8 s k E) (λ c d n k q=>HS c d n E E)
theorem EN (g q:F) (s t:aG) (m y b z:J) (n o:ac) (a:af) (Z8:an a s m n) (Z6:an a t b o):
  bp 124 #[am g s m y,am q t b z] a (ck (λ k r=>k^^^r) g n q o):=by
 have X:Below a.heap.size a (((a.alloc (al #[M g,aa s m y] 29)).alloc (al #[M q,aa t b z] 29)).alloc (al #[M 0,aa aj 0 0] 29)):=((az a _).alloc ar _).alloc bO _;cases B:cJ g n q o
 ·have Z4:=ab (oO (T:= λ k r=>k^^^r) B);rw[Z4.o];go_enter func124,ntmps124;go_wp2_with fail;refine hj ?_;refine iV ?_;intro u c d e f l;go_wp2;refine aK (v:=aL #[am 0 aj 0 0,aw ak]) (by simp[aJ,results124,go_sem,c,d]) I ⟨?_,?_⟩
  ·exact b1.no _ _
  ·exact bB
 ·obtain⟨A,S,ZS,Y⟩:=fN B;clear ZS;refine ib ?_;intro Q Z9 T;subst T;have Z3:b=2 \/ b=4 \/ b=8 \/ b=16:=by have:=qP A;rw[Q.o] at this;exact this
  have ZW:=ab Z3;clear Z3;refine kn ?_;intro j L R;refine iX ?_;intro ZZ Z1 K N P;have ZX:U (∀p,p<b->0<=O (bN (λ k r=>k^^^r) n o b b b) p /\ O (bN (λ k r=>k^^^r) n o b b b) p<=4000000000000000000):= λ p _=>by
   have:=jY (λ k r=>k^^^r) n o b b b K N.o P.o b aZ p;omega
  have Z4:U (ck (λ k r=>k^^^r) g n q o=bh g (bN (λ k r=>k^^^r) n o b b b)):=by rw[U];unfold ck;rw[B,Q.o,Z9.o];rfl
  rw[Z4.o];clear Y L R j;go_enter func124,ntmps124;go_wp2_with fail;refine hj ?_;refine iW ?_;intro u i c d e f D G C H l;refine m5 ?_;intro Z7 W;clear i;go_wp2;go_region_held3 (λ Z5=>Z5.cell? (ad a.heap.size 0)=Z (M g) /\ Z5.cell? (ad a.heap.size 1)=Z (aa s b y) /\ Z5.cell? (ad (a.heap.size+1) 0)=Z (M q) /\ Z5.cell? (ad (a.heap.size+1) 1)=Z (aa t b z)) (first | (refine⟨by assumption,by assumption,by assumption,by assumption⟩;done) | (refine⟨by simp[*],by simp[*],by simp[*],by simp[*]⟩;done) | go_keep) (first | (go_at_call 220;refine(H7 g q _ _ _ _ _ _ n o _ ((Z8.below l).below (bI _)) ((Z6.below l).below (bI _)) K aZ N.o P.o ZW.o).mono ?_;rintro V ZD ⟨⟨ZM,rfl,ZT⟩,ZV⟩;obtain⟨ZK,ZN,ZI,rfl,ZY⟩:=ZT.ints;have ZU:ZN=b:=(by rw[<- ZY.len];exact jj _ _ _ _ _ _);subst ZU;have v:=au (bI u) ZV;have ZR:=ag v D;have ZQ:=ag v G;have ZP:=ag v C;have ZO:=ag v H;have e:=aB v c e;have f:=aB v d f;have c:=ag v c;have d:=ag v d) | (go_at_call 218;refine(jl g _ _ _ _ _ ZY K ZX.o).mono ?_;rintro V ZC ⟨⟨ZM,rfl,Z2⟩,x⟩;obtain⟨ZL,ZE,ZJ,rfl,ZG⟩:=Z2.ints;have w:=au v x;have ZR:=ag w D;have ZQ:=ag w G;have ZP:=ag w C;have ZO:=ag w H;have e:=aB x c e;have f:=aB x d f;have c:=ag x c;have d:=ag x d));all_goals
   have ZH:=au l w;have ZF:=v.size;go_wp2;refine aK (by simp[aJ,results124,go_sem,c,d]) I ⟨⟨_,I,((Z2.setBelow (by simp;omega) _).setBelow (by simp;omega) _).mono E⟩,?_⟩;exact bB
theorem FF (i j:F) (g h:aG) (a m c n:J) (d e:ac) (f:af) (r:an f g a d) (t:an f h c e) (p:a<=16) (o:c<=a)
  (s:∀b,b<a->0<=O d b /\ O d b<=1000000) (u:∀b,b<c->0<=O e b /\ O e b<=1000000) (q:a=2 \/ a=4 \/ a=8 \/ a=16):
  db 81 #[am i g a m,am j h c n,aE ⟨#[120,111,114]⟩] f (bN (λ k l=>k^^^l) d e a c a) :=
 Dw _ _ (aP ⟨I,I⟩) i j _ _ _ _ _ _ d e f r t p o s u q
theorem Gz (a b:F) (g i:aG) (l r k s:J) (d e:ac) (c:af) (v:an c g l d) (x:an c i k e):
  bp 292 #[am a g l r,am b i k s,aE ⟨#[120,111,114]⟩] c (ck (λ p q=>p^^^q) a d b e) :=
 u3 _ _ a b _ _ _ _ _ _ d e c v x λ o u m n=>by
  obtain⟨A,S,_,y⟩:=fN u;refine kn ?_;intro j L R;have w:=m.len;have z:=n.len;exact FF a b _ _ _ _ _ _ d e o m n E E (λ f t=>L f E) (λ f t=>R f E) (by have:=qP A;rw[w] at this;exact this)
theorem El (G i:F) (c d:aG) (g l f m:J) (j k:ac) (a:af) (v:an a c g j) (w:an a d f k):
  bp 194 #[am G c g l,am i d f m] a (ck (λ p r=>p^^^r) G j i k):=by
 have n:Below a.heap.size a (((a.alloc (al #[M G,aa c g l] 29)).alloc (al #[M i,aa d f m] 29)).alloc (al #[M 0,aa aj 0 0] 29)):=((az a _).alloc ar _).alloc bO _;go_enter func194,ntmps194;go_wp2_with fail;refine(Gz _ _ _ _ _ _ _ _ j k _ (v.below n) (w.below n)).mono ?_;rintro y o ⟨⟨D,rfl,b⟩,e⟩;obtain⟨q,x,s,rfl,C⟩:=b.ints;obtain⟨t,u,z,A⟩:=cj (a.heap.size+1+1) e ar;have B:ap a o:=dz e;replace b:av o (a.heap.size+1+1+1) (aa q x s) _:=b.mono ar;clear e;go_wp2;refine aK (by simp[aJ,results194,go_sem,t,u]) I ⟨⟨_,I,((b.setBelow ar _).setBelow ar _).mono E⟩,?_⟩;exact bB
def ij (c:F) (a:ac) (f:F) (b:ac):bc:=if cJ c a f b then bh c ((bN (λ d e=>d&&&e) a b a.length b.length a.length).set 0 0) else bc.no
theorem B2 {a:F} {c:ac} {b:F} {d:ac} (e:cJ a c b d=ak):ij a c b d=bc.no:=by simp[ij,e]
theorem FG (g q:F) (s t:aG) (m y b z:J) (n o:ac) (a:af) (Z8:an a s m n) (Z6:an a t b o):
  bp 125 #[am g s m y,am q t b z] a (ij g n q o):=by
 have X:Below a.heap.size a (((a.alloc (al #[M g,aa s m y] 29)).alloc (al #[M q,aa t b z] 29)).alloc (al #[M 0,aa aj 0 0] 29)):=((az a _).alloc ar _).alloc bO _;cases B:cJ g n q o
 ·have r:=ab (B2 B);rw[r.o];go_enter func125,ntmps125;go_wp2_with fail;refine hj ?_;refine iV ?_;intro u c d e f l;go_wp2;refine aK (v:=aL #[am 0 aj 0 0,aw ak]) (by simp[aJ,results125,go_sem,c,d]) I ⟨?_,?_⟩
  ·exact b1.no _ _
  ·exact bB
 ·obtain⟨A,S,ZT,Y⟩:=fN B;clear ZT;refine ib ?_;intro Q Z9 T;subst T;refine kn ?_;intro j L R;refine iX ?_;intro ZZ Z1 K N P;have ZX:U (∀p,p<b->0<=O (bN (λ w x=>w&&&x) n o b b b) p /\ O (bN (λ w x=>w&&&x) n o b b b) p<=4000000000000000000):= λ p _=>by
   exact n8
  refine yI ?_;intro r;refine og ?_;intro Z4;have ZW:U (∀p,p<(bN (λ w x=>w&&&x) n o b b b).length->0<=O (bN (λ w x=>w&&&x) n o b b b) p /\ O (bN (λ w x=>w&&&x) n o b b b) p<=4000000000000000000):= λ p Z0=>ZX.o p (by rw[Z4.o] at Z0;exact Z0)
  clear Y L R j;go_enter func125,ntmps125;go_wp2_with fail;refine hj ?_;refine iW ?_;intro u i c d e f D G C H l;refine m5 ?_;intro Z7 W;clear i;go_wp2;go_region_held3 (λ Z3=>Z3.cell? (ad a.heap.size 0)=Z (M g) /\ Z3.cell? (ad a.heap.size 1)=Z (aa s b y) /\ Z3.cell? (ad (a.heap.size+1) 0)=Z (M q) /\ Z3.cell? (ad (a.heap.size+1) 1)=Z (aa t b z)) (first | (refine⟨by assumption,by assumption,by assumption,by assumption⟩;done) | (refine⟨by simp[*],by simp[*],by simp[*],by simp[*]⟩;done) | go_keep) (first | (go_at_call 219;refine(qn g q _ _ _ _ _ _ n o _ ((Z8.below l).below (bI _)) ((Z6.below l).below (bI _)) K aZ N.o P.o).mono ?_;rintro V ZD ⟨⟨ZM,rfl,Z2⟩,ZV⟩;obtain⟨ZK,ZN,ZI,rfl,ZS⟩:=Z2.ints;have ZU:ZN=b:=(by rw[<- ZS.len];exact jj _ _ _ _ _ _);subst ZU;have k:=au (bI u) ZV;have ZR:=ag k D;have ZQ:=ag k G;have ZP:=ag k C;have ZO:=ag k H;have e:=aB k c e;have f:=aB k d f;have c:=ag k c;have d:=ag k d) | (go_at_call 223;refine(ts g _ _ _ _ _ (Z2.mono (Nat.zero_le _)) (by rw[Z4.o];exact Z1) (by rw[Z4.o];exact K) ZW.o).mono ?_;rintro V ZC ⟨⟨ZM,rfl,ZY⟩,Z5⟩;obtain⟨ZL,ZE,ZJ,rfl,ZG⟩:=ZY.ints;have v:=au k Z5;have ZR:=ag v D;have ZQ:=ag v G;have ZP:=ag v C;have ZO:=ag v H;have e:=aB Z5 c e;have f:=aB Z5 d f;have c:=ag Z5 c;have d:=ag Z5 d));all_goals
   have ZH:=au l v;have ZF:=k.size;go_wp2;refine aK (by simp[aJ,results125,go_sem,c,d]) I ⟨⟨_,I,((ZY.setBelow (by simp;omega) _).setBelow (by simp;omega) _).mono E⟩,?_⟩;exact bB
theorem Ew (g q:F) (s t:aG) (m y b z:J) (n o:ac) (a:af) (Z8:an a s m n) (Z6:an a t b o):
  bp 195 #[am g s m y,am q t b z] a (ij g n q o):=by
 have X:Below a.heap.size a (((a.alloc (al #[M g,aa s m y] 29)).alloc (al #[M q,aa t b z] 29)).alloc (al #[M 0,aa aj 0 0] 29)):=((az a _).alloc ar _).alloc bO _;cases B:cJ g n q o
 ·have r:=ab (B2 B);rw[r.o];go_enter func195,ntmps195;go_wp2_with fail;refine jg ?_;refine iV ?_;intro u c d e f l;go_wp2;refine aK (v:=aL #[am 0 aj 0 0,aw ak]) (by simp[aJ,results195,go_sem,c,d]) I ⟨?_,?_⟩
  ·exact b1.no _ _
  ·exact bB
 ·obtain⟨A,S,ZT,Y⟩:=fN B;clear ZT;refine ib ?_;intro Q Z9 T;subst T;refine kn ?_;intro j L R;refine iX ?_;intro ZZ Z1 K N P;have ZW:U (∀p,p<b->0<=O (bN (λ w x=>w&&&x) n o b b b) p /\ O (bN (λ w x=>w&&&x) n o b b b) p<=4000000000000000000):= λ p _=>by
   exact n8
  refine yI ?_;intro r;refine og ?_;intro Z4;clear Y L R j;go_enter func195,ntmps195;go_wp2_with fail;refine jg ?_;refine iW ?_;intro u i c d e f D G C H l;refine m5 ?_;intro Z7 W;clear i;go_wp2;go_region_held3 (λ Z3=>Z3.cell? (ad a.heap.size 0)=Z (M g) /\ Z3.cell? (ad a.heap.size 1)=Z (aa s b y) /\ Z3.cell? (ad (a.heap.size+1) 0)=Z (M q) /\ Z3.cell? (ad (a.heap.size+1) 1)=Z (aa t b z)) (first | (refine⟨by assumption,by assumption,by assumption,by assumption⟩;done) | (refine⟨by simp[*],by simp[*],by simp[*],by simp[*]⟩;done) | go_keep) (first | (go_at_call 81;refine(tv g q _ _ _ _ _ _ n o _ ((Z8.below l).below (bI _)) ((Z6.below l).below (bI _)) K aZ N.o P.o).mono ?_;rintro V ZF ⟨⟨ZO,rfl,ZU⟩,ZV⟩;obtain⟨ZK,ZL,Z2,_,_,ZY⟩:=ZU.form (by rw[Z4.o];omega);rw[Z4.o] at Z2 ZY;subst Z2;have k:=au (bI u) ZV;have ZS:=ag k D;have ZR:=ag k G;have ZQ:=ag k C;have ZP:=ag k H;have e:=aB k c e;have f:=aB k d f;have c:=ag k c;have d:=ag k d) | (go_at_call 293;refine(tL g _ _ _ (bN (λ w x=>w&&&x) n o b b b) _ ZY Z1 K ZW.o).mono ?_;rintro V ZE ⟨⟨ZO,rfl,ZX⟩,Z5⟩;obtain⟨ZN,ZG,ZM,rfl,ZI⟩:=ZX.ints;have v:=au k Z5;have ZS:=ag v D;have ZR:=ag v G;have ZQ:=ag v C;have ZP:=ag v H;have e:=aB Z5 c e;have f:=aB Z5 d f;have c:=ag Z5 c;have d:=ag Z5 d));all_goals
   have ZJ:=au l v;have ZH:=k.size;go_wp2;refine aK (by simp[aJ,results195,go_sem,c,d]) I ⟨⟨_,I,((ZX.setBelow (by simp;omega) _).setBelow (by simp;omega) _).mono E⟩,?_⟩;exact bB
def iE (a:a8):ax:=if a then [116,114,117,101] else [102,97,108,115,101]
theorem Ex (a:a8) (b:af):aC 241 #[aw a] b (aE (ai (iE a))):=by
 cases a
 ·go_enter func241,ntmps241;exact jP
 ·go_enter func241,ntmps241;exact jP
theorem GA (c:F) (d:aG) (Z8 e:J) (b:ac) (a:af) (Q:av a 0 (aa d Z8 e) b) (p:aI c b=ae):
  bp 128 #[am c d Z8 e] a (bh c (b.set 0 0)):=by
 obtain⟨P,L,t,v,_,_,_⟩:=bt p;have N:=b8 P;have u:Below a.heap.size a ((a.alloc (al #[M c,aa d Z8 e] 29)).alloc (al #[M 0,aa aj 0 0] 29)):=aD;have r:=Q.below u;have s:1<=b.length:=E;have y:U (∀j,j<b.length->0<=O b j /\ O b j<=4000000000000000000):= λ j K=>by have:=v j K;omega
 obtain⟨k,q⟩:∃k,bh c (b.set 0 0)=k:=⟨_,I⟩;have A:U (∀l,av l 0 (aa d Z8 e) b->bp 223 #[M c,aa d Z8 e] l k):= λ l G=>by rw[<- q];exact ts c _ _ _ b l G s t y.o
 rw[q];have z:=ab p;clear q L v t s N p;go_enter func128,ntmps128;go_wp2_with fail;refine(cn _ _ _ _ b _ r.view).mono ?_;rw[z.o];rintro D x ⟨rfl,f⟩;obtain⟨i,m,n,o⟩:=cj (a.heap.size+1) f ar;have W:=aS f a.heap.size 0 (M c);have X:=aS f a.heap.size 1 (aa d Z8 e);have H:ap a x:=dz f;have Y:a.heap.size+1<x.heap.size:=b6 i;have R:=r.below f;clear f u r;go_wp2_with fail;refine(A.o _ R).mono ?_;rintro D Z9 ⟨⟨Z,rfl,w⟩,g⟩;obtain⟨B,S,C,rfl,V⟩:=w.ints;replace n:=aB g i n;replace o:=aB g m o;replace i:=ag g i;replace m:=ag g m;have T:=au H g;clear g;go_wp2;refine aK (v:=aL #[am k.size B S C,aw k.ok]) (by simp[aJ,results128,go_sem,i,m,n,o]) I ⟨?_,?_⟩
 ·exact⟨_,I,(((w.mono (base':=a.heap.size+1+1) E).setBelow ar _).setBelow ar _).mono E⟩
 ·exact aD
def im (a:ac) (b:J):ac:=(a.set (b-1) (O a (b-1)+O a 0)).set 0 0
def iq (c:F) (a:ac) (f:F) (b:ac):bc:=if cJ c a f b then bh c (im (bN (λ d e=>d&&&e) a b a.length b.length a.length) a.length) else bc.no
theorem Cp {a:F} {c:ac} {b:F} {d:ac} (e:cJ a c b d=ak):iq a c b d=bc.no:=by simp[iq,e]
theorem JY {b:ac} {N:J} (c:∀a,0<=O b a /\ O b a<=300000000000000) (a:J):0<=O (im b N) a /\ O (im b N) a<=600000000000000:=by
 have d:=c a;have e:=c (N-1);have f:=c 0;unfold im;rw[cO,cO];split
 ·omega
 ·split<;>omega
theorem GB (g q:F) (s t:aG) (m y b z:J) (n o:ac) (a:af) (Z8:an a s m n) (Z6:an a t b o):
  bp 126 #[am g s m y,am q t b z] a (iq g n q o):=by
 have X:Below a.heap.size a (((a.alloc (al #[M g,aa s m y] 29)).alloc (al #[M q,aa t b z] 29)).alloc (al #[M 0,aa aj 0 0] 29)):=aD;cases B:cJ g n q o
 ·have Y9:=ab (Cp B);rw[Y9.o];go_enter func126,ntmps126;go_wp2_with fail;refine hj ?_;refine iV ?_;intro u c d e f l;go_wp2;refine aK (v:=aL #[am 0 aj 0 0,aw ak]) (by simp[aJ,results126,go_sem,c,d]) I ⟨?_,?_⟩
  ·exact b1.no _ _
  ·exact bB
 ·obtain⟨Zk,Zj,Y1,Y⟩:=fN B;clear Y1;refine ib ?_;intro Q Z9 T;subst T;obtain⟨Ze,Zh,Y3,ZH,_,_,_⟩:=cv Zk;obtain⟨_,_,_,ZG,_,_,_⟩:=cv Zj;have YN:=b8 Ze;have Zi:aH g=b:=by rw[<- Zh];exact Q.o
  refine yu ?_;intro K N P;have Z3:U (∀p,0<=O (bN (λ w x=>w&&&x) n o b b b) p /\ O (bN (λ w x=>w&&&x) n o b b b) p<=300000000000000):= λ p=>by
   exact n8
  refine og ?_;intro Z4;refine zp ?_;intro Z2;refine yV ?_;intro j ZF ZY Z3 Z4 Z2 ZV Z1;have Zq:U (∀r ZM Zr,an r (Z (ad ZM 0)) b (im j b)->bp 218 #[M g,aq ZM b Zr] r (bh g (im j b))):= λ r ZM Zr ZC=>jl g _ _ _ _ r ZC K ZV.o
  have ZD:U (∀r,aC 224 #[M g] r (M ((b-1:J):F))):= λ r=>(me g r Ze).mono λ V YT ⟨Y2,Y0⟩=>⟨by rw[Y2,Zi];congr 2;omega,lb Y0⟩
  have Y6:=Z3.o 0;have Y5:=Z3.o (b-1);obtain⟨ZX,ZB⟩:∃Zz,O j 0=Zz:=⟨_,I⟩;obtain⟨ZW,ZA⟩:∃Zz,O j (b-1)=Zz:=⟨_,I⟩;rw[ZB] at Y6 Z1;rw[ZA] at Y5 Z1;have Y8:=ab ZB;have Zp:=ab ZA;obtain⟨ZI,Zg⟩:∃ZI,bh g (im j b)=ZI:=⟨_,I⟩;rw[Zg] at Zq ⊢;obtain⟨ZJ,Zl⟩:∃YZ,b-1=YZ:=⟨_,I⟩;rw[Zl] at ZD Z1 Zp;have ZE:ZJ<b:=E;have YP:ZJ≠0:=E;have C:(0:F)<=(ZJ:F):=E;have YU:(ZJ:F)<(b:F):=E;have ZS:0<b:=E;have YM:IntKind.i64.wrap (ZW+ZX)=ZW+ZX:=by rw[bV];omega
  clear Y ZH ZG Y3 Zk Zj ZY ZB ZA Zg Zh Zi Zl;go_enter func126,ntmps126;go_wp2_with fail;refine hj ?_;refine iW ?_;intro u i c d e f D G C H l;refine k8 ?_;intro Z7 Z5;have YK:a.heap.size+1+1<u.heap.size:=b6 c;clear i X;go_wp2_with fail;refine(Z2.o _ Z7 Z5).mono ?_;rintro V YJ ⟨⟨YX,rfl,S⟩,v⟩;obtain⟨ZM,YS,Zo,YR,YQ,_⟩:=S.form (by rw[Z4.o];omega);rw[Z4.o] at Zo;subst Zo;replace D:=ag v D;replace G:=ag v G;replace C:=ag v C;replace H:=ag v H;refine hF ?_;intro e f c d A;clear v Z7 Z5;go_wp2;obtain⟨ZK,Zm,_⟩:=S.cellAt ZE;obtain⟨ZL,Zn,_⟩:=S.cellAt ZS;rw[Zp.o] at ZK;rw[Y8.o] at ZL;refine ei 11 ah ah (λ _ _ _ _ _ ZC=>ZC) ?_;refine dY ?_;repeat (first | go_big_quiet_step ((go_at_call 224;(with_reducible exact aQ (ZD.o _)))) | quiet_step ((go_at_call 224;(with_reducible exact aQ (ZD.o _)))))
  refine et ?_;intro L k;have ZR:=S.below k;replace Zm:=aB k ZK Zm;replace ZK:=ag k ZK;replace Zn:=aB k ZL Zn;replace ZL:=ag k ZL;replace D:=ag k D;replace G:=ag k G;replace C:=ag k C;replace H:=ag k H;refine oq ?_;intro e f c d;have Zx:=au A k;have YL:=k.size;refine ze ?_;intro Zt Zs ZP ZU Zw Zv ZT W e f c d Zu ZO ZN;clear S ZR k;go_wp2_with fail;rw[ZU.o,ZT.o];refine(Zq.o _ _ _ ZN).mono ?_;rintro V YI ⟨⟨YX,rfl,Zf⟩,R⟩;obtain⟨Y7,YY,Y4,rfl,YO⟩:=Zf.ints;refine oe ?_;intro e f c d ZZ;clear R;go_wp2;refine aK (v:=aL #[am ZI.size Y7 YY Y4,aw ZI.ok]) (by simp[aJ,results126,go_sem,c,d,e,f]) I ⟨?_,?_⟩
  ·exact⟨_,I,(((Zf.mono (base':=a.heap.size+1+1+1) E).setBelow ar _).setBelow ar _).mono E⟩
  ·exact aD
def hQ (a b:J):a8:=decide (a&&&b=a)||decide (b&&&a=b)
def pe (a:ac) (b:J):a8:=bq (λ c=>hQ b (O a c).toNat) a.length
def iJ (a:ac):a8:=bq (λ b=>pe a (O a b).toNat) a.length
theorem L3:∀a b:Fin 16,(bits hZ cz ((a.val:J):F) ((b.val:J):F)==0)=decide (a.val&&&b.val=a.val):=cS
theorem CP (a b:J) (d:a<16) (e:b<16):(bits hZ cz (a:F) (b:F) != 0)= !decide (a&&&b=a):=by
 have c:=L3 ⟨a,d⟩ ⟨b,e⟩;simp only at c;unfold bne;rw[c]
theorem H8 (G:F) (y:aG) (j R:J) (n:ac) (Z7:af) (Z8:an Z7 y j n) (Z9:aI G n=ae):
  aC 308 #[am G y j R] Z7 (aw (iJ (bQ n j))):=by
 have Z0:=az Z7 (al #[M G,aa y j R] 29);obtain⟨ZE,ZF,ZM,_,_,_,_⟩:=cv Z9;have Zk:j<=16:=by have:=Z8.len;omega
 have N:U (∀r,an r y j n->aY prog 232 #[am G y j R] r λ f Z5=>∃H,f=aV H /\ av Z5 r.heap.size H (bQ n j) /\ ap r Z5):= λ r z=>tB _ _ _ _ n r z E
 have K:U (∀a,a<(bQ n j).length->∃d:J,d<16 /\ O (bQ n j) a=(d:F)):= λ a ZU=>by
  obtain⟨d,S,D,_⟩:=oX n j a ZU;exact⟨d,E,D⟩
 obtain⟨i,ZZ⟩:∃i,bQ n j=i:=⟨_,I⟩;rw[ZZ] at N K ⊢;have ZN:=ab Z9;clear ZZ ZF ZM Z9 ZE;go_enter func308,ntmps308;go_wp2_with fail;refine(cn _ _ _ _ _ _ (Z8.below Z0)).mono ?_;rw[ZN.o];rintro f Zh ⟨rfl,T⟩;obtain⟨t,u,ZL⟩:=dZ T;have ZQ:=(Z8.below Z0).below T;clear T;go_wp2_with fail;refine(N.o _ ZQ).mono ?_;rintro f Zz ⟨H,rfl,ZS,A⟩;obtain⟨Zs,c,Zu,rfl,X⟩:=ZS.ints;replace t:=ag A t;replace u:=ag A u;have ZD:=ZQ.below A;have Z2:=au ZL A;have o:=ab X.len;have Zo:=X.cap;clear ZS A;go_wp2;go_loopw [4,13] (λ _ p wr=>∃b:J,b<=c /\ p=M b /\ (∀a,a<b->pe i (O i a).toNat=ae) /\ ap Zz wr) (λ _ p _=>c-(intOf p).toNat)
 case atStart=>exact⟨0,E,I,λ a z=>E,Below.refl _ _⟩
 case round =>
  obtain⟨b,Zl,rfl,ZX,s⟩:=hrel;obtain⟨Zg,rfl⟩:∃g:af,g=wr:=⟨_,I⟩;have Z4:=ab ZX;clear ZX;replace t:=ag s t;replace u:=ag s u;have ZC:=ZD.below s;have ZG:=X.below s;have Z1:=Z2.trans (s.mono Z2.size);by_cases Z:b<c
  ·obtain⟨Zw,Zj,rfl,Zq,Zy,ZI⟩:=ZG.at bA Z;obtain⟨d,ZY,V⟩:=K.o b (by rw[o.o];exact Z);rw[V] at ZI;have Z3:=ab V;refine l4 ?_;intro P Q;clear V;go_wp2_with fail;refine(N.o _ ZC).mono ?_;rintro f Zf ⟨H,rfl,ZR,B⟩;obtain⟨Zr,v,Zt,rfl,ZW⟩:=ZR.ints;obtain rfl:v=c:=by rw[<- ZW.len,o.o]
   replace t:=ag B t;replace u:=ag B u;have ZK:=au s B;have ZJ:=au Z1 B;clear ZR B;go_wp2;go_loop [6,20] (λ _ p=>∃a:J,a<=v /\ p=M a /\ (∀g,g<a->hQ d (O i g).toNat=ae)) (λ _ p=>v-(intOf p).toNat)
   case atStart=>exact⟨0,E,I,λ g z=>E⟩
   case round =>
    obtain⟨a,ZU,rfl,ZV⟩:=hrel;have C:=ab ZV;clear ZV;by_cases Y:a<v
    ·obtain⟨Zv,Zi,rfl,Zp,Zx,ZH⟩:=ZW.at bA Y;obtain⟨k,ZP,W⟩:=K.o a (by rw[o.o];exact Y);rw[W] at ZH;have ZO:=ab W;have Zn:(0:F)<=(a:F):=E;have Zm:(a:F)<(v:F):=E;have q:=CP d k ZY ZP;have w:=CP k d ZP ZY;obtain⟨Ze,ZB⟩:∃Z6,bits hZ cz (d:F) (k:F)=Z6:=⟨_,I⟩;obtain⟨Zd,ZA⟩:∃Z6,bits hZ cz (k:F) (d:F)=Z6:=⟨_,I⟩;rw[ZB] at q;rw[ZA] at w;have m:U (hQ d (O i a).toNat=(decide (d&&&k=d)||decide (k&&&d=k))):=by rw[U,ZO.o,cI];rfl
     clear W;cases e:decide (d&&&k=d)
     ·cases l:decide (k&&&d=k)
      ·rw[e] at q;rw[l] at w;simp only[n4] at q w;have L:U (iJ i=ak):=by
        cases z:iJ i
        ·rfl
        ·have S:=(cp _ _).1 z b (by rw[o.o];exact Z);rw[Z3.o,cI] at S;have D:=(cp _ _).1 S a (by rw[o.o];exact Y);rw[m.o,e,l] at D;cases D
       clear m e l;go_wp2;go_ret;exact⟨by rw[L.o];rfl,ZJ⟩
      ·have x:U (∀g,g<a+1->hQ d (O i g).toNat=ae):= λ g ZT=>by
        exact yg
       rw[e] at q;rw[l] at w
       simp only[n4,nY] at q w
       clear m e l
       go_wp2
       go_round
       case rel=>exact⟨a+1,E,by go_num,x.o⟩
       case measure=>simp[intOf];omega
     ·have x:U (∀g,g<a+1->hQ d (O i g).toNat=ae):= λ g ZT=>by
       exact xd
      rw[e] at q
      simp only[nY] at q
      clear m e w
      go_wp2
      go_round
      case rel=>exact⟨a+1,E,by go_num,x.o⟩
      case measure=>simp[intOf];omega
    ·obtain rfl:a=v:=E;have x:U (∀g,g<b+1->pe i (O i g).toNat=ae):= λ g ZT=>by
      by_cases f:g=b
      ·subst f;rw[Z3.o,cI];exact(cp _ _).2 (by rw[o.o];exact C.o)
      ·exact Z4.o g E
     go_wp2;go_roundw
     case rel=>exact⟨b+1,E,by go_num,x.o,ZK⟩
     case measure=>simp[intOf];omega
  ·obtain rfl:b=c:=E;have L:U (iJ i=ae):=(cp _ _).2 (by rw[o.o];exact Z4.o);go_wp2;go_ret;exact⟨by rw[L.o];rfl,Z1⟩
theorem rj (e a:J) (G:e<a) (g:ay) (d:aU ch) (l:ch) (is:a8) (b:af) (k: b.cell? (ad a 0)=Z g) (s: b.frozen? (ad a 0)=ak) (p:cb b e g d) (o:g.ownBlock≠Z a) (L:d.length<=100):
  aY prog 306 #[aE l,aw is,br a] b λ c j=>c=aV (aL #[]) /\ (∃m,j.cell? (ad a 0)=Z m /\ j.frozen? (ad a 0)=ak /\ cb j e m (if is then d++[l] else d) /\ m.ownBlock≠Z a) /\ Below e b j:=by
 have K:a<b.heap.size:=b6 k;cases is
 ·go_enter func306,ntmps306;go_wp2;refine bodyPost_end (v:=aL #[]) (by simp[aJ,results306,go_sem]) I ⟨I,?_⟩;exact⟨⟨g,k,s,p,o⟩,Below.refl _ _⟩
 ·have A:=p.block;have M:=az b (al #[aE l] 9);go_enter func306,ntmps306;go_wp2_with (at_builtin;refine qj I _ _ I e g d d.length I a6 (p.below (az b _)) _ _ l a6 ar E (by simp;omega) ?_;intro r w i x f C;(have t:=f.block a (by simp;omega) (λ c=>o c.symm));(have F: i.cell? (ad a 0)=Z g:=(eR t).trans (ag (az b _) k));(have y: i.frozen? (ad a 0)=ak:=(gK t).trans (aB (az b _) k s)));have B:r≠a:=by
   rcases C with n | n
   ·intro c;subst c;exact o n
   ·simp at n;omega
  have u:Below e b i:=⟨f.os.trans M.os,f.tape.trans M.tape,f.output.trans M.output,ez M.size f.size,λ q H=>(f.block q (by simp;omega) (λ c=>by have:=(A q c.symm).1;omega)).trans (M.block q E)⟩;have v:aA a (a+1) i (i.setCell (ad a 0) (aq r (d.length+1) w)):=aA.set (by show a<=a /\ a<a+1;omega);have D:=cb.span x v E;have z:=aA.below u (by have:=u.size;omega) v E;go_wp2;refine bodyPost_end (v:=aL #[]) (by simp[aJ,results306,go_sem]) I ⟨I,?_⟩;exact⟨⟨_,fZ _ _ _ F,by simp[y],D,by simpa [lL] using B⟩,z⟩
theorem JZ (c:bg ay) (a:af):c9 prog (b0 306 c) a=.ok (.enter 306 c) a:=by
 have g:(Tryz.f306.name== "runtime.NumGoroutine")=ak:=ah;have b:Tryz.f306.body.isNone=ak:=ah;have d:¬Tryz.f306.name= "runtime.NumGoroutine" :=by simpa using g
 have e:¬Tryz.f306.body=aj:=by intro f;rw[f] at b;simp at b
 simp only[b0,eC,run_program,ex,func306,cR,eB,aF d,aF e,ey]
def jr (b:F) (a:ac):aU (ax) :=
 (if ci b a then [[110,111,114,109,97,108]] else [])++(if gN b a then [[99,104,97,110,99,101]] else [])++(if iJ (bQ a a.length) then [[110,101,115,116,101,100]] else [])++(if lz b a then [[105,110,100,101,112,101,110,100,101,110,116]] else [])
def i5 (a:F) (b:ac):ax:=if jr a b=[] then [45] else Lib.join (jr a b) [32]
theorem A6 (b:F) (a:ac):(jr b a).length<=4 /\ ∀g∈jr b a,g.length<=11:=by
 unfold jr;generalize ci b a=c;generalize gN b a=d;generalize iJ (bQ a a.length)=e;generalize lz b a=f;cases c<;>cases d<;>cases e<;>cases f<;>decide
theorem Gb (a:F) (b:ac):(i5 a b).length<=60:=by
 unfold i5;split
 ·decide
 ·have c:=A6 a b;have d:=uK (c:=32) c.2;have:12*(jr a b).length<=48:=E;omega
theorem rp (a:a8) (b:aU (ax)) (c:ax):(if a then b.map ai++[ai c] else b.map ai)=(b++if a then [c] else []).map ai:=by cases a<;>simp
theorem J0 (Zx c:af) (ZT:J) (u:gT) (Y1:dp Zx) (a:ap Zx c) (ZX:dT c ZT u) (Z8:aI u.s u.xs=ae):
  aC 233 #[br ZT] c (aE (ai (i5 u.s u.xs))):=by
 have Zv:U (ai [32]=aN #[32]):=ab I;obtain⟨n,r,K,m,ZF,Y2⟩:=ZX.m;have j:=ZX.c0;have y:=ZF.view;have Y5:=JZ;obtain⟨d,ZE⟩:∃d,u.s=d:=⟨_,I⟩;obtain⟨b,ZD⟩:∃b,u.xs=b:=⟨_,I⟩;rw[ZE] at j Z8 ⊢;rw[ZD] at y Z8 ⊢;obtain⟨i,Z1⟩:∃s,ci d b=s:=⟨_,I⟩;obtain⟨l,Z0⟩:∃s,gN d b=s:=⟨_,I⟩;obtain⟨o,ZZ⟩:∃s,iJ (bQ b b.length)=s:=⟨_,I⟩;obtain⟨t,ZY⟩:∃s,lz d b=s:=⟨_,I⟩;have ZQ:U (∀e,an e n r b->aC 267 #[am d n r K] e (aw i)):= λ e f=>by rw[<- Z1];exact kp d _ _ _ b e f
 have ZP:U (∀e,an e n r b->aC 307 #[am d n r K] e (aw l)):= λ e f=>by rw[<- Z0];exact Hj d _ _ _ b e f
 have ZO:U (∀e,an e n r b->aC 308 #[am d n r K] e (aw o)):= λ e f=>by rw[<- ZZ];have Zl:=f.len;rw[Zl];exact H8 d _ _ _ b e f Z8
 have ZN:U (∀e,an e n r b->aC 309 #[am d n r K] e (aw t)):= λ e f=>by rw[<- ZY];exact EG d _ _ _ b e f
 have ZS:U (jr d b=(if i then [[110,111,114,109,97,108]] else [])++(if l then [[99,104,97,110,99,101]] else [])++(if o then [[110,101,115,116,101,100]] else [])++(if t then [[105,110,100,101,112,101,110,100,101,110,116]] else [])):=by rw[U,<- Z1,<- Z0,<- ZZ,<- ZY];rfl
 have ZM:=ab (show i5 d b=if jr d b=[] then [45] else Lib.join (jr d b) [32] from I);have Zu:=ab (A6 d b);clear Z1 Z0 ZZ ZY Z8 ZX ZF ZE ZD;go_enter func233,ntmps233;go_wp2_with fail;obtain⟨Z5,v⟩:∃Zc:af,(c.alloc (al #[] 9)).alloc (al #[aq c.heap.size 0 0] 34)=Zc:=⟨_,I⟩;rw[v];have Q:ap c Z5:=by rw[<- v];exact aD
 have Z7:cb Z5 c.heap.size (aq c.heap.size 0 0) (([]:aU (ax)).map ai):=by rw[<- v];exact(cb.lit c).below (az _ _)
 have C: Z5.cell? (ad (c.heap.size+1) 0)=Z (aq c.heap.size 0 0):=by rw[<- v];simp
 have L: Z5.frozen? (ad (c.heap.size+1) 0)=ak:=by rw[<- v];simp
 have ZC:(aa (Z (ad c.heap.size 0)) 0 0).ownBlock≠Z (c.heap.size+1):=by simp[lL]
 have Zh:(([]:aU (ax)).map ai).length<=0:=ar;have g:=ag Q j;have YN:=ag Q m;clear v;refine(ZQ.o _ (y.below Q)).mono ?_;rintro p YW ⟨rfl,a⟩;have V:=au Q a;replace L:=aB a C L;replace C:=ag a C;replace Z7:=Z7.below a;clear a g YN;have g:=ag V j;have YN:=ag V m;go_wp2_with fail;refine(rj c.heap.size (c.heap.size+1) E _ _ (ai [110,111,114,109,97,108]) i _ C L Z7 ZC E).mono ?_;rintro p YZ ⟨rfl,⟨YS,D,M,z,ZB⟩,a⟩;rw[rp] at z;have R:=V.trans a;have Zg:(((([]:aU (ax)))++if i then [[110,111,114,109,97,108]] else []).map ai).length<=1:=by
  have f:=Zh;rw[ec] at f ⊢;rw[dm];have P:(if i then [([110,111,114,109,97,108]:ax)] else []).length<=1:=by cases i<;>simp
  omega
 clear a C L Z7 ZC g YN V;have g:=ag R j;have YN:=ag R m;go_wp2_with fail;refine(ZP.o _ (y.below R)).mono ?_;rintro p YV ⟨rfl,a⟩;have W:=au R a;replace M:=aB a D M;replace D:=ag a D;replace z:=z.below a;clear a g YN;have g:=ag W j;have YN:=ag W m;go_wp2_with fail;refine(rj c.heap.size (c.heap.size+1) E _ _ (ai [99,104,97,110,99,101]) l _ D M z ZB E).mono ?_;rintro p YY ⟨rfl,⟨YR,G,N,A,ZA⟩,a⟩;rw[rp] at A;have S:=W.trans a;have Zf:((((([]:aU (ax)))++if i then [[110,111,114,109,97,108]] else [])++if l then [[99,104,97,110,99,101]] else []).map ai).length<=2:=by
  have f:=Zg;rw[ec] at f ⊢;rw[dm];have P:(if l then [([99,104,97,110,99,101]:ax)] else []).length<=1:=by cases l<;>simp
  omega
 clear a D M z ZB g YN W;have g:=ag S j;have YN:=ag S m;go_wp2_with fail;refine(ZO.o _ (y.below S)).mono ?_;rintro p YU ⟨rfl,a⟩;have X:=au S a;replace N:=aB a G N;replace G:=ag a G;replace A:=A.below a;clear a g YN;have g:=ag X j;have YN:=ag X m;go_wp2_with fail;refine(rj c.heap.size (c.heap.size+1) E _ _ (ai [110,101,115,116,101,100]) o _ G N A ZA E).mono ?_;rintro p YX ⟨rfl,⟨YQ,H,O,B,Zz⟩,a⟩;rw[rp] at B;have T:=X.trans a;have Ze:(((((([]:aU (ax)))++if i then [[110,111,114,109,97,108]] else [])++if l then [[99,104,97,110,99,101]] else [])++if o then [[110,101,115,116,101,100]] else []).map ai).length<=3:=by
  have f:=Zf;rw[ec] at f ⊢;rw[dm];have P:(if o then [([110,101,115,116,101,100]:ax)] else []).length<=1:=by cases o<;>simp
  omega
 clear a G N A ZA g YN X;have g:=ag T j;have YN:=ag T m;go_wp2_with fail;refine(ZN.o _ (y.below T)).mono ?_;rintro p YT ⟨rfl,a⟩;have Y:=au T a;replace O:=aB a H O;replace H:=ag a H;replace B:=B.below a;clear a g YN;have g:=ag Y j;have YN:=ag Y m;go_wp2_with fail;refine(rj c.heap.size (c.heap.size+1) E _ _ (ai [105,110,100,101,112,101,110,100,101,110,116]) t _ H O B Zz E).mono ?_;rintro p Zb ⟨rfl,⟨YP,Zi,Y6,q,Zy⟩,a⟩;rw[rp] at q;have x:=Y.trans a;have Z6:((((((([]:aU (ax)))++if i then [[110,111,114,109,97,108]] else [])++if l then [[99,104,97,110,99,101]] else [])++if o then [[110,101,115,116,101,100]] else [])++if t then [[105,110,100,101,112,101,110,100,101,110,116]] else []).map ai).length<=4:=by
  have f:=Ze;rw[ec] at f ⊢;rw[dm];have P:(if t then [([105,110,100,101,112,101,110,100,101,110,116]:ax)] else []).length<=1:=by cases t<;>simp
  omega
 clear a H O B Zz g YN Y;have g:=ag x j;have YN:=ag x m;have ZL:U ((((((([]:aU (ax)))++if i then [[110,111,114,109,97,108]] else [])++if l then [[99,104,97,110,99,101]] else [])++if o then [[110,101,115,116,101,100]] else [])++if t then [[105,110,100,101,112,101,110,100,101,110,116]] else [])=jr d b):=by rw[U,ZS.o];simp
 rw[ZL.o] at q Z6;obtain⟨Zt,Z2⟩:∃ZU,jr d b=ZU:=⟨_,I⟩;rw[Z2] at q Z6;have Z4:=ZM.o;have Z3:=Zu.o;rw[Z2] at Z4 Z3;have w:=ab Z4;have ZK:=ab Z3;clear Z4 Z3 ZS ZL Z2 ZM ZQ ZP ZO ZN;cases Zt with
 | nil =>
  rcases q.2 with ⟨rfl,_⟩ | ⟨ZJ,Y7,Zr,rfl,_⟩
  ·go_wp2;go_ret;exact⟨by rw[w.o];rfl,x⟩
  ·go_wp2;go_ret;exact⟨by rw[w.o];rfl,x⟩
 | cons Y9 Y8 =>
  obtain⟨k,Z9⟩:∃ZU,Y9::Y8=ZU:=⟨_,I⟩
  have Zo:k≠[]:=by rw[<- Z9];simp
  rw[Z9] at q Z6 w ZK
  have Y0:1<=k.length:=by rw[<- Z9];simp
  rw[ec] at Z6
  clear Z9
  rcases q.2 with ⟨_,Zq⟩ | ⟨ZJ,Zs,Zr,Zj,_⟩
  ·rw[ec] at Zq;omega
  ·subst Zj;obtain⟨Zk,ZG,Y4,Zm,ZI⟩:=q.at;have ZR:U (Lib.join ((k.map ai).map (·.data.toList)) (ai [32]).data.toList=Lib.join k [32]):=by
    rw[U,cE,List.map_map];congr 1;conv=>rhs;rw[<- List.map_id k]
    exact List.map_congr_left λ Za _=>cE Za
   have ZH:(Lib.join ((k.map ai).map (·.data.toList)) (ai [32]).data.toList).length<=140737488355328:=by
    rw[ZR.o];have P:=uK (c:=32) ZK.o.2;omega
   have ZW:=Tryz.strings_Join ZJ 0 Zs (k.map ai) (ai [32]) Zb ZI Zm (by rw[ec];omega) (by rw[ec] at ZG ⊢;omega) ZH;obtain⟨Zy,ZV⟩:∃Zd,(k.map ai).length=Zd:=⟨_,I⟩;have Y3:((Zy:F)==0)=ak:=by rw[dx];rw[ec] at ZV;omega
   rw[ZV] at ZW Zi;rw[ZR.o,Zv.o] at ZW;have Zw:U (i5 d b=Lib.join k [32]):=by rw[U,w.o,aF Zo]
   clear ZH Zk ZG ZI q ZV w;go_wp2_with fail;refine ZW.mono ?_;rintro p YO ⟨rfl,Zn⟩;have Zp:=au x Zn;go_wp2;go_ret;exact⟨by rw[Zw.o];rfl,Zp⟩
end Go.Proofs.YtkjnhlpccgjfhaaGreatDoor
