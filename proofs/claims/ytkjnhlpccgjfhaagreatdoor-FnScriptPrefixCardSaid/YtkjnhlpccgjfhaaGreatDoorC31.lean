/- A part of the proof: lemmas (my texts, shortened by a program of mine). -/
import Derived.Sort.OwnSortedInts
import Derived.Lib.RowBridge
import Derived.Test.YtkjnhlpccgjfhaaGreatDoorC27
set_option linter.all false
set_option maxRecDepth 100000
set_option maxHeartbeats 4000000
namespace Go.Proofs.YtkjnhlpccgjfhaaGreatDoor
open Go.RowKit
open Go.Proofs.Tryz
open Bool renaming and_eq_true->b9,false->ak,true->ae
open Classical renaming byContradiction->jJ
open Go renaming Calls->aY,Oper->bD,Value->ay,World->af,bodyPost_ret->aK,results->aJ,wpQuiet_nil->dn
open Go.BinOp renaming andNot->hZ
open Go.Ending renaming returned->aV
open Go.IntKind renaming i64->cz
open Go.Obj renaming cells->al
open Go.Value renaming bool->aw,int->ed,slice->aa,tuple->aL
open Int renaming le_refl->fE,max_eq_left->pk,max_eq_right->nZ,toNat_natCast->cI
open List renaming getElem_of_mem->kP,length_append->dm,length_map->ec,length_set->iu,map_append->g7,mem_append->nW,range->cN,replicate->bE,take_of_length_le->jF
open Nat renaming le_refl->bL,lt_or_ge->hX,or_lt_two_pow->kd
open Option renaming none->aj,some->Z
open Option.some renaming inj->iO
open Or renaming inl->bj,inr->aP
open _root_ renaming Array->bg,Bool->a8,Int->F,List->aU,Nat->J,absurd->bC,beq_eq_false_iff_ne->dx,beq_iff_eq->cR,congrArg->be,decide_eq_true_eq->hB,if_neg->aF,if_pos->a7,rfl->I
variable {p q:Prop}
def ja {α:Type} (d:α) (c:J->α) (a:ac):J->aU α
 | 0=>bE a.length d
 | b+1=>(ja d c a b).set (O a (a.length-1-b)).toNat (c (dF (a.drop (a.length-1-b))))
def fm {α:Type} (d:α) (c:J->α) (a:ac):J->aU α
 | 0=>bE a.length d
 | b+1=>(fm d c a b).set (O a b).toNat (c (dF (a.drop b)))
theorem LF {α β:Type} (b:α->β) (e:α) (c:J->α) (d:ac) (a:J):(ja e c d a).map b=ja (b e) (λ g=>b (c g)) d a:=by
 induction a with
 | zero=>simp[ja]
 | succ a f=>simp only[ja,List.map_set,f]
theorem LG {α β:Type} (b:α->β) (e:α) (c:J->α) (d:ac) (a:J):(fm e c d a).map b=fm (b e) (λ g=>b (c g)) d a:=by
 induction a with
 | zero=>simp[fm]
 | succ a f=>simp only[fm,List.map_set,f]
theorem Oi:∀b:Fin 5,((dq b.val).all λ a=>decide (ja aj Z a b.val=fm aj Z a b.val)&&(decide (dF a=2^b.val-1)&&(cN b.val).all λ c=>(bits hZ cz ((dF (a.drop c):J):F) (2^(O a c).toNat)==((dF (a.drop (c+1)):J):F))&&decide (dF (a.drop c)<2^b.val)))=ae:=cS
theorem Ca {a:F} {b:ac} (i:bK a=ae) (m:c8 a b=ae):(∀d:J->F,ja 0 d b a.toNat=fm 0 d b a.toNat) /\ dF b=2^a.toNat-1 /\
  ∀c,c<a.toNat->bits hZ cz ((dF (b.drop c):J):F) (2^(O b c).toNat)=((dF (b.drop (c+1)):J):F) /\ dF (b.drop c)<2^a.toNat:=by
 obtain⟨q,o⟩:=rs i m;have h:1<=a.toNat /\ a.toNat<=4:=by rcases cG.1 i with rfl | rfl | rfl | rfl<;>decide
 have p:=CK h.1 h.2 o q;have f:=Oi ⟨a.toNat,E⟩;rw[List.all_eq_true] at f;have g:=f b p;simp only[b9,hB,List.all_eq_true,List.mem_range,cR] at g;obtain⟨j,k,l⟩:=g;refine⟨λ d=>?_,k,λ c n=>l c n⟩;have e:=be (List.map (λ r:Option J=>r.elim 0 d)) j;rw[LF,LG] at e;exact e
def dN (a:F) (b c:ac):Option (ac):=if ci a b&&c8 a c then Z (fm 0 (λ d=>a9 (bm (bU d)) b b.length) c a.toNat) else aj
theorem zR (f:F) (D ZQ:aG) (V R ZX Zu:J) (e a:ac) (k:af) (N:an k D V e) (P:an k ZQ ZX a):
  aY prog 167 #[am f D V R,aa ZQ ZX Zu] k λ t q=>lK (dN f e a) k.heap.size t q /\ ap k q:=by
 have w:=N.below (w':=(k.alloc (al #[M f,aa D V R] 29))) aD;cases u:ci f e with
 | false =>
  have H:U (dN f e a=aj):=by show dN f e a=aj;unfold dN;rw[u];rfl
  rw[H.o]
  have Q:=ab u
  clear u
  go_enter func167,ntmps167
  go_wp2_with fail
  refine(kp _ _ _ _ e _ w).mono ?_;rw[Q.o];rintro t z ⟨rfl,j⟩
  have x:ap k z:=bJ j
  clear j
  go_wp2
  refine aK (v:=aL #[aa aj 0 0,aw ak]) (by simp[aJ,results167,go_sem]) I ⟨⟨_,I,av.nil _ _⟩,x⟩
 | true =>
  have K:=(nk u).1
  have v:=(bt K).1
  have Q:=ab u
  have Ze:=ab K
  cases y:c8 f a with
  | false =>
   have H:U (dN f e a=aj):=by show dN f e a=aj;unfold dN;rw[y];simp
   rw[H.o]
   clear u K
   go_enter func167,ntmps167
   go_wp2_with fail
   refine(kp _ _ _ _ e _ w).mono ?_;rw[Q.o];rintro t z ⟨rfl,j⟩
   have m:=aS j k.heap.size 0 (M f)
   have x:ap k z:=bJ j
   have ZZ:=P.below x
   clear j
   go_wp2_with fail
   refine(nv _ _ _ _ a _ ZZ v).mono ?_;rw[(kz v).1,y];rintro t q ⟨rfl,rfl⟩
   go_wp2
   refine aK (v:=aL #[aa aj 0 0,aw ak]) (by simp[aJ,results167,go_sem]) I ⟨⟨_,I,av.nil _ _⟩,x⟩
  | true =>
   obtain⟨Z9,Z6,Z1⟩:=Ca v y
   have H:U (dN f e a=Z (fm 0 (λ Y=>a9 (bm (bU Y)) e e.length) a f.toNat)):=by show dN f e a=_;unfold dN;rw[u,y];rfl
   rw[H.o]
   obtain⟨Zo,Z3⟩:=oT v y
   obtain⟨_,ZL,ZP,ZF,_⟩:=bt K
   have Y9:1<=f /\ f<=4:=by rcases cG.1 v with s | s | s | s<;>omega
   have Z5:aH f=2^f.toNat:=by rcases cG.1 v with rfl | rfl | rfl | rfl<;>rfl
   obtain⟨c,rfl⟩:∃c:J,f=(c:F):=⟨f.toNat,E⟩
   rw[cI] at Z9 Z6 Z1 Z5 ⊢
   obtain rfl:V=e.length:=N.len.symm
   obtain rfl:ZX=a.length:=P.len.symm
   have Z4:a.length=c:=E
   obtain⟨g,S⟩:∃g,e.length=g:=⟨_,I⟩
   have Z8:g=2^c:=by rw[<- S,ZL,Z5]
   have G:=ab Z4
   rw[S] at N w ZP ⊢
   rw[Z4] at P Z3 ⊢
   have Zw:=ab Z3
   have Zx:U (∀b,b<g->0<=O e b /\ O e b<=1000000):=by show ∀b,b<g->_;rw[<- S];exact ZF
   have ZT:U (∀b,b<c->bits hZ cz ((dF (a.drop b):J):F) (2^(O a b).toNat)=((dF (a.drop (b+1)):J):F) /\ dF (a.drop b)<g):=by
    intro b ZM;have:=Z1 b ZM;rw[Z8];exact this
   have Zf:U (dF a=g-1):=by rw[U,Z8];exact Z6
   obtain⟨i,ZW⟩:∃i:J->F,U ((λ Y=>a9 (bm (bU Y)) e g)=i):=⟨_,I⟩
   have Zz:U (∀b,a9 (bm (bU b)) e g=i b):= λ b=>by rw[<- ZW.o]
   rw[ZW.o]
   have ZA:U (ja 0 i a c=fm 0 i a c):=Z9 i
   clear u K Z9 Z6 Z1 Z5 Z4 Z8 S ZL ZF Z3 Zo
   go_enter func167,ntmps167
   go_wp2_with fail
   refine(kp _ _ _ _ e _ w).mono ?_;rw[Q.o];rintro t z ⟨rfl,j⟩
   have m:=aS j k.heap.size 0 (M (c:F))
   have n:=aS j k.heap.size 1 (aa D g R)
   have x:ap k z:=bJ j
   have Zi:k.heap.size<z.heap.size:=b6 m
   have ZZ:=P.below x
   clear j
   go_wp2_with fail
   refine(nv _ _ _ _ a _ ZZ v).mono ?_;rw[(kz v).1,y];rintro t q ⟨rfl,rfl⟩
   clear y
   go_wp2_with (at_make;refine e6 I _ _ I c _ _ I I I I E ?_;intro ZB Z2 T Zh;(have ZE:=ag T m);(have ZD:=ag T n))
   have Z0:=au x T
   clear m n T
   obtain⟨r,o⟩:∃r,z.heap.size=r:=⟨_,I⟩
   rw[o] at Z2 Zi Zh ⊢
   clear o
   have Zm:av ZB r (aq r c c) (ja 0 i a (c-c)):=by rw[Nat.sub_self];show av _ _ _ (bE a.length 0);rw[G.o];exact Z2
   clear Z2
   go_loopw [7,8] (λ Zg ZY wr=>∃b:J,b<=c /\ ZY=M ((b:F)-1) /\ Zg=M (dF (a.drop b)) /\ av wr r (aq r c c) (ja 0 i a (c-b)) /\ ZB.grownBy wr (Z r)) (λ _ ZY _=>(intOf ZY+1).toNat)
   case atStart=>exact⟨c,bL _,I,by rw[<- G.o,List.drop_length];rfl,Zm,hI _ _⟩
   case round =>
    obtain⟨b,ZM,rfl,rfl,L,o⟩:=hrel;refine sA ?_;intro B m n;rcases b with _ | d
    ·go_wp2;rw[Nat.sub_zero,ZA.o] at L;refine aK (v:=aL #[aq r c c,aw ae]) (by simp[aJ,results167,go_sem]) I ⟨⟨_,I,L.mono E⟩,B⟩
    ·have Zj:(((d+1:J):F)-1)=(d:F):=E;have Zb:(0:F)<=(d:F):=E;have Za:(d:F)<(c:F):=E;rw[Zj];have ZK:d<a.length:=by rw[G.o];omega
     have Zp:=Zw.o d E;have ZU:=ab (J1 ZK);have Zs:=(ZT.o d E).2;obtain⟨Zc,Y6,rfl,_,_,Zq⟩:=P.at B (show d<c from E);obtain⟨l,ZC⟩:∃l:J,O a d=(l:F):=⟨(O a d).toNat,E⟩;have w:(O a d).toNat=l:=E;have X:U (ja 0 i a (c-d)=(ja 0 i a (c-(d+1))).set l (i (dF (a.drop d)))):=by
      have t:c-d=(c-(d+1))+1:=E;rw[U,t];show (ja 0 i a (c-(d+1))).set (O a (a.length-1-(c-(d+1)))).toNat (i (dF (a.drop (a.length-1-(c-(d+1))))))=_;rw[show a.length-1-(c-(d+1))=d by have:=G.o;omega,w]
     rw[w] at ZU;rw[ZC] at Zq Zp;clear ZC w;have Zk:l<c:=E;have Y7:(l:F)<(c:F):=E;have Y8:=gO l E;have ZH:dF (a.drop (d+1))<1000000000:=by
      rcases hX (d+1) c with s | s
      ·have:=(ZT.o (d+1) s).2;omega
      ·rw[List.drop_of_length_le (by have:=G.o;omega)];decide
     have ZJ:=mo (dF (a.drop (d+1))) l ZH E;have Zn:bits BinOp.or cz ((dF (a.drop (d+1)):J):F) (2^l)=((dF (a.drop d):J):F):=by rw[ZJ,ZU.o]
     clear ZJ;obtain⟨A,ZR⟩:∃A,U (dF (a.drop d)=A):=⟨_,I⟩;rw[ZR.o] at Zn Zs X;generalize dF (a.drop (d+1))=Zd at *;have Zr:A<16:=E;obtain⟨W,ZS⟩:∃W,U (i A=W):=⟨_,I⟩;have ZV:U (∀q,an q D g e->aC 253 #[am (c:F) D g R,M (A:F)] q (M W)):= λ q Zt=>by rw[<- ZS.o,<- Zz.o];exact nh _ A _ _ _ e q Zt Zr ZP Zx.o
     rw[ZS.o] at X;obtain⟨Z7,ZO,_⟩:=L.cellAt (show l<c from E);clear ZK ZH;go_wp2;refine ei 8 ah ah (λ _ _ _ _ _ s=>s) ?_;refine dY ?_;repeat (first | go_big_quiet_step ((go_at_call 253;(with_reducible exact aQ (ZV.o _ ((N.below B).below (aM _ _)))))) | quiet_step ((go_at_call 253;(with_reducible exact aQ (ZV.o _ ((N.below B).below (aM _ _)))))))
     refine ko ?_;intro C p;have ZI:=L.below p;replace ZO:=aB p Z7 ZO;replace Z7:=ag p Z7;obtain⟨Y5,ZG,Zl,ZN⟩:=dC ZI Zk W;have Zy:=ab (eO (eO o (iC p (Z r))) ZN);have Zv:=ab ZG;clear ZG ZN ZI L p o;go_wp2;rw[Zv.o];go_roundw
     case rel=>exact⟨d,E,by go_num,by rw[ZR.o],by rw[X.o];exact Zl,Zy.o⟩
     case measure=>simp[intOf]
theorem zy (e:F) (z ZP:aG) (W P ZU Zs:J) (d a:ac) (k:af) (L:an k z W d) (D:an k ZP ZU a):
  aY prog 111 #[am e z W P,aa ZP ZU Zs] k λ t l=>lK (dN e d a) k.heap.size t l /\ ap k l:=by
 have w:=L.below (w':=(k.alloc (al #[M e,aa z W P] 29))) aD;cases v:ci e d with
 | false =>
  have G:U (dN e d a=aj):=by show dN e d a=aj;unfold dN;rw[v];rfl
  rw[G.o]
  have N:=ab v
  clear v
  go_enter func111,ntmps111
  go_wp2_with fail
  refine(iA _ _ _ _ d _ w).mono ?_;rw[N.o];rintro t s ⟨rfl,g⟩
  have r:ap k s:=bJ g
  clear g
  go_wp2
  refine aK (v:=aL #[aq s.heap.size 0 0,aw ak]) (by simp[aJ,results111,go_sem]) I ⟨⟨_,I,(av.lit _).mono (by have:=r.size;omega)⟩,by have:=r.size;exact aD⟩
 | true =>
  have K:=(nk v).1
  have A:=(bt K).1
  have N:=ab v
  have Zb:=ab K
  cases x:c8 e a with
  | false =>
   have G:U (dN e d a=aj):=by show dN e d a=aj;unfold dN;rw[x];simp
   rw[G.o]
   clear v K
   go_enter func111,ntmps111
   go_wp2_with fail
   refine(iA _ _ _ _ d _ w).mono ?_;rw[N.o];rintro t s ⟨rfl,g⟩
   have m:=aS g k.heap.size 0 (M e)
   have r:ap k s:=bJ g
   have ZW:=D.below r
   clear g
   go_wp2_with fail
   refine(nw _ _ _ _ a _ ZW A).mono ?_;rw[x];rintro t l ⟨rfl,rfl⟩
   go_wp2
   refine aK (v:=aL #[aq s.heap.size 0 0,aw ak]) (by simp[aJ,results111,go_sem]) I ⟨⟨_,I,(av.lit _).mono (by have:=r.size;omega)⟩,by have:=r.size;exact aD⟩
  | true =>
   obtain⟨Z8,Z5,ZY⟩:=Ca A x
   have G:U (dN e d a=Z (fm 0 (λ Z9=>a9 (bm (bU Z9)) d d.length) a e.toNat)):=by show dN e d a=_;unfold dN;rw[v,x];rfl
   rw[G.o]
   obtain⟨Zj,Z2⟩:=oT A x
   obtain⟨_,ZJ,ZO,ZG,_⟩:=bt K
   have Y4:1<=e /\ e<=4:=by rcases cG.1 A with j | j | j | j<;>omega
   have Z4:aH e=2^e.toNat:=by rcases cG.1 A with rfl | rfl | rfl | rfl<;>rfl
   obtain⟨c,rfl⟩:∃c:J,e=(c:F):=⟨e.toNat,E⟩
   rw[cI] at Z8 Z5 ZY Z4 ⊢
   obtain rfl:W=d.length:=L.len.symm
   obtain rfl:ZU=a.length:=D.len.symm
   have Z3:a.length=c:=E
   obtain⟨f,R⟩:∃f,d.length=f:=⟨_,I⟩
   have Q:f=2^c:=by rw[<- R,ZJ,Z4]
   have Zy:=ab Q
   have Zw:=ab Z3
   rw[R] at L w ZO ⊢
   rw[Z3] at D Z2 ⊢
   have Zx:=ab Z2
   have Zz:U (∀b,b<f->0<=O d b /\ O d b<=1000000):=by show ∀b,b<f->_;rw[<- R];exact ZG
   have Zv:U (∀b,b<c->bits hZ cz ((dF (a.drop b):J):F) (2^(O a b).toNat)=((dF (a.drop (b+1)):J):F) /\ dF (a.drop b)<f):=by
    intro b ZK;have:=ZY b ZK;rw[Q];exact this
   have ZB:U (dF a=f-1):=by rw[U,Q];exact Z5
   obtain⟨i,ZT⟩:∃i:J->F,U ((λ Z9=>a9 (bm (bU Z9)) d f)=i):=⟨_,I⟩
   have ZC:U (∀b,a9 (bm (bU b)) d f=i b):= λ b=>by rw[<- ZT.o]
   rw[ZT.o]
   have Zc:U (ja 0 i a c=fm 0 i a c):=Z8 i
   clear v K Z8 Z5 ZY Z4 Z3 Q R ZJ ZG Z2 Zj
   go_enter func111,ntmps111
   go_wp2_with fail
   refine(iA _ _ _ _ d _ w).mono ?_;rw[N.o];rintro t s ⟨rfl,g⟩
   have m:=aS g k.heap.size 0 (M (c:F))
   have n:=aS g k.heap.size 1 (aa z f P)
   have r:ap k s:=bJ g
   have Zg:k.heap.size<s.heap.size:=b6 m
   have ZW:=D.below r
   clear g
   go_wp2_with fail
   refine(nw _ _ _ _ a _ ZW A).mono ?_;rw[x];rintro t l ⟨rfl,rfl⟩
   clear x
   go_wp2_with (at_make;refine e6 I _ _ I c _ _ I I I I E ?_;intro ZF Z1 S Zf;(have ZE:=ag S m);(have ZD:=ag S n))
   have Z0:=au r S
   clear m n S
   obtain⟨q,o⟩:∃q,s.heap.size=q:=⟨_,I⟩
   rw[o] at Z1 Zg Zf ⊢
   clear o
   have Zi:av ZF q (aq q c c) (fm 0 i a 0):=by show av _ _ _ (bE a.length 0);rw[Zw.o];exact Z1
   clear Z1
   have Y7:2<=f:=by rw[Zy.o];rcases(show c=1 \/ c=2 \/ c=3 \/ c=4 from E) with j | j | j | j<;>rw[j]<;>decide
   go_wp2_with fail
   go_loopw [7,8] (λ Ze ZV wr=>∃b:J,b<=c /\ ZV=M b /\ Ze=M (dF (a.drop b)) /\ av wr q (aq q c c) (fm 0 i a b) /\ ZF.grownBy wr (Z q)) (λ _ ZV _=>c-(intOf ZV).toNat)
   case atStart=>exact⟨0,E,I,by rw[List.drop_zero,ZB.o];go_num,Zi,hI _ _⟩
   case round =>
    obtain⟨b,ZK,rfl,rfl,V,o⟩:=hrel;refine sA ?_;intro B m n;by_cases T:b<c
    ·have Y6:(0:F)<=(b:F):=E;have Y5:(b:F)<(c:F):=E;have Zk:=Zx.o b T;obtain⟨ZZ,Zo⟩:=Zv.o b T;obtain⟨Y9,Y0,Zq,_,_,ZN⟩:=D.at B T;obtain⟨y,ZX⟩:∃y:J,O a b=(y:F):=⟨(O a b).toNat,E⟩;have w:(O a b).toNat=y:=E;have Y:U (fm 0 i a (b+1)=(fm 0 i a b).set y (i (dF (a.drop b)))):=by rw[<- w];rfl
     rw[w] at ZZ;rw[ZX] at ZN Zk;have ZH:y<c:=E;have Y1:(y:F)<(c:F):=E;have Y3:=gO y E;obtain⟨u,Zt⟩:∃u,U (dF (a.drop b)=u):=⟨_,I⟩;obtain⟨Za,ZQ⟩:∃u,U (dF (a.drop (b+1))=u):=⟨_,I⟩;rw[Zt.o] at Zo ZZ Y ⊢;rw[ZQ.o] at ZZ;have Zm:u<16:=E;obtain⟨X,ZR⟩:∃X,U (i u=X):=⟨_,I⟩;have ZS:U (∀l,an l z f d->aC 85 #[am (c:F) z f P,M (u:F)] l (M X)):= λ l Zp=>by rw[<- ZR.o,<- ZC.o];exact ng _ u _ _ _ d l Zp Zm ZO Zz.o
     rw[ZR.o] at Y;obtain⟨Z6,ZM,_⟩:=V.cellAt ZH;have Zu:=ab ZX;clear ZX w;subst Zq;go_wp2;refine ei 8 ah ah (λ _ _ _ _ _ j=>j) ?_;refine dY ?_;repeat (first | go_big_quiet_step ((go_at_call 85;(with_reducible exact aQ (ZS.o _ ((L.below B).below (aM _ _)))))) | quiet_step ((go_at_call 85;(with_reducible exact aQ (ZS.o _ ((L.below B).below (aM _ _)))))))
     refine ko ?_;intro C p;have ZI:=V.below p;replace ZM:=aB p Z6 ZM;replace Z6:=ag p Z6;obtain⟨Zd,Y2,Zh,ZL⟩:=dC ZI ZH X;have Z7:=eO (eO o (iC p (Z q))) ZL;have Zn:ap k Zd:=cV Z0 Z0.size Z7 (λ b t=>by injection t with t;omega);obtain⟨Y8,YZ,H,_,_,Zl⟩:=D.at Zn T;injection H with H
     injection H with H Zr
     subst H Zr;rw[Zu.o] at Zl;have ZA:=ab Z7;clear ZL ZI V p o Z7 ZN;go_wp2;go_roundw
     case rel=>exact⟨b+1,E,by go_num,by rw[ZQ.o],by rw[Y.o];exact Zh,ZA.o⟩
     case measure=>simp[intOf];omega
    ·obtain rfl:b=c:=E;go_wp2;refine aK (v:=aL #[aq q b b,aw ae]) (by simp[aJ,results111,go_sem]) I ⟨⟨_,I,V.mono E⟩,B⟩
def jw (b:ac) (a:J) (c:F):ac:=b.set a (O b a+c)
theorem qV (a:ac) (b:J) (c:F):(jw a b c).length=a.length:=iu
theorem mg (b:ac) (c:J) (d:F) (a:J):O (jw b c d) a=O b a+(if c=a /\ a<b.length then d else 0):=by
 unfold jw;rw[cO];split
 ·rename_i e;rw[e.1]
 ·omega
theorem Je (e:ac) (a c:J) (b d:F):jw (jw e a b) c d=jw (jw e c d) a b:=by
 refine kI _ _ (by simp[qV]) λ f _=>?_
 rw[mg,mg,mg,mg,qV,qV];omega
theorem Jf (a:ac) (b:J):jw a b 0=a:=by
 refine kI _ _ (qV _ _ _) λ c _=>?_
 rw[mg];split<;>omega
def ew (d:ac) (e:F) (c:J):J:=bx (λ a b=>if e<=O d a then b|||2^a else b) 0 c
def en (a:ac) (e:F) (d:J):F:=bx (λ c b=>if O a c<e then max b (O a c) else b) 0 d
def i6 (a:ac) (b d:J):a8:=bq (λ c=>decide (b<=c)|| !(O a c==O a b)) d
def hT (a:ac) (c:ac) (b:F):ac:=jw c (ew a b a.length) (b-en a b a.length)
def eW (a:ac) (d:J):ac:=bx (λ c b=>if i6 a c a.length then hT a b (O a c) else b) (bE (2^a.length) 0) d
def fD (c a:ac) (d:J):ac:=bx (λ b e=>jw e (ew c (O a (b+1)) c.length) (O a (b+1)-O a b)) (bE (2^c.length) 0) d
def fd (a:ac):ac:=Lib.compact ((0::a).mergeSort λ b c=>decide (b<=c))
def gz (c:ac) (b:J):F:=bx (λ a d=>max d (O c a)) 0 b
def ik (a:ac):a8:=bK (a.length:F)&&(bq (λ b=>bi 0 1000000 (O a b)) a.length&&decide (0<gz a a.length))
def eM (a:ac):bc:=if ik a then bh a.length (eW a a.length) else bc.no
theorem Cb {σ:Type} {b:J->a8} {c:J->F} (d:σ->F->σ) (e:σ) (a:J):bx (λ g f=>if b g then d f (c g) else f) e a=(((cN a).filter b).map c).foldl d e:=by
 induction a with
 | zero=>rfl
 | succ a i =>
  rw[List.range_succ,List.filter_append,g7,List.foldl_append,<- i]
  show (if b a then d _ (c a) else _)=_
  cases h:b a<;>simp[h]
theorem Cc (c:ac) (d:F) (n:∀a,a<c.length->0<=O c a):∀a,a<=c.length->0<=en c d a /\ (en c d a=0 \/ ∃b,b<a /\ O c b=en c d a /\ O c b<d) /\ ∀b,b<a->O c b<d->O c b<=en c d a:=by
 intro a;induction a with
 | zero=>intro _;exact⟨fE _,bj I,λ b s=>E⟩
 | succ a o =>
  intro r
  obtain⟨k,g,i⟩:=o E
  have q:=n a E
  have j:en c d (a+1)=if O c a<d then max (en c d a) (O c a) else en c d a:=rfl
  rw[j]
  split
  ·rename_i m;refine⟨E,?_,λ b s f=>?_⟩
   ·rcases Int.le_total (O c a) (en c d a) with e | e
    ·rw[pk e];exact vH
    ·rw[nZ e];exact aP ⟨a,E,I,m⟩
   ·rcases hX b a with e | e
    ·have:=i b e f;omega
    ·obtain rfl:b=a:=E;omega
  ·rename_i l;refine⟨k,?_,λ b s f=>?_⟩
   ·exact vH
   ·rcases hX b a with e | e
    ·exact i b e f
    ·obtain rfl:b=a:=E;exact bC f l
theorem Ls (d:bg F) (l:∀n b,n<=b->b<d.size->d[n]! <=d[b]!):∀a,a<=d.size->(Lib.compactUpTo d a).Pairwise (· < ·) /\ (∀e,e∈Lib.compactUpTo d a↔∃b,b<a /\ d[b]! =e):=by
 intro a;induction a with
 | zero=>intro _;exact⟨by simp[Lib.compactUpTo],λ e=>by simp[Lib.compactUpTo]⟩
 | succ a r =>
  intro u
  obtain⟨j,i⟩:=r E
  rw[Lib.compactUpTo_succ]
  cases k:Lib.keeps d a
  ·rw[aF ar,List.append_nil];refine⟨j,λ e=>?_⟩;rw[i];have h:¬(a=0 \/ d[a]! ≠d[a-1]!):=by simpa [Lib.keeps] using k
   have v:a≠0:= λ c=>h (bj c)
   have p:d[a]! =d[a-1]! :=jJ λ c=>h (aP c)
   constructor
   ·rintro⟨b,g,c⟩;exact⟨b,E,c⟩
   ·rintro⟨b,g,c⟩;rcases hX b a with f | f
    ·exact⟨b,f,c⟩
    ·obtain rfl:b=a:=E;exact⟨b-1,E,by rw[<- p];exact c⟩
  ·rw[a7 rfl];refine⟨?_,λ e=>?_⟩
   ·rw[List.pairwise_append];refine⟨j,ar,λ e q w m=>?_⟩;rw[List.mem_singleton] at m;subst m;obtain⟨b,g,rfl⟩:=(i e).1 q;have h:a=0 \/ d[a]! ≠d[a-1]! :=by simpa [Lib.keeps] using k
    have s:=l b (a-1) E E;have t:=l (a-1) a E E;rcases h with o | o
    ·omega
    ·omega
   ·rw[nW,i,List.mem_singleton];constructor
    ·rintro(⟨b,g,c⟩ | c)
     ·exact⟨b,E,c⟩
     ·exact⟨a,E,c.symm⟩
    ·rintro⟨b,g,c⟩;rcases hX b a with f | f
     ·exact bj ⟨b,f,c⟩
     ·obtain rfl:b=a:=E;exact aP c.symm
theorem Cd (f:ac):(fd f).Pairwise (· < ·) /\ ∀c,c∈fd f↔c=0 \/ c∈f:=by
 obtain⟨a,h⟩:∃a,((0::f).mergeSort λ c i=>decide (c<=i))=a:=⟨_,I⟩;have p:a.Perm (0::f):=by rw[<- h];exact List.mergeSort_perm _ _
 have q:a.Pairwise λ c i=>decide (c<=i)=ae:=by rw[<- h];exact List.pairwise_mergeSort (λ m n t k l=>by simp at *;omega) (λ m n=>by simp;omega) _
 have r:∀e b,e<=b->b<a.toArray.size->a.toArray[e]! <=a.toArray[b]! :=by
  intro e b u d;rcases hX e b with j | j
  ·have:=List.pairwise_iff_getElem.1 q e b (by simp at d;omega) (by simpa using d) j;simp at d;rw[getElem!_pos a.toArray e (by simp;omega),getElem!_pos a.toArray b (by simp;omega)];simpa using this
  ·obtain rfl:e=b:=E;exact fE _
 obtain⟨k,l⟩:=Ls a.toArray r a.length ar;have g:fd f=Lib.compactUpTo a.toArray a.length:=by unfold fd;rw[h];rfl
 rw[g];refine⟨k,λ c=>?_⟩;rw[l];have o:c∈a↔c=0 \/ c∈f:=by rw[p.mem_iff];simp
 rw[<- o];constructor
 ·rintro⟨b,d,rfl⟩;rw[getElem!_pos a.toArray b (by simpa using d)];simp
 ·intro s;obtain⟨b,d,g⟩:=kP s;exact⟨b,d,by rw[getElem!_pos a.toArray b (by simpa using d)];simpa using g⟩
theorem Nh (a:ac) (u:∀w,w<a.length->0<=O a w):fD a (fd a) ((fd a).length -1)=eW a a.length /\ O (fd a) 0=0 /\ 1<=(fd a).length /\ ∀b,b+1<(fd a).length->en a (O (fd a) (b+1)) a.length=O (fd a) b:=by
 obtain⟨N,p⟩:=Cd a;have Z8:∀e,e∈a->0<=e:= λ e s=>by
  obtain⟨c,f,rfl⟩:=kP s;rw[<- cK _ _ f];exact u c f
 obtain⟨d,V⟩:∃d,fd a=d:=⟨_,I⟩;rw[V] at N p ⊢;have y:(0:F)∈d:=(p 0).2 (bj I);have Z6:∀e,e∈d->0<=e:= λ e s=>by
  rcases(p e).1 s with rfl | g
  ·exact fE _
  ·exact Z8 e g
 have M:=List.length_pos_of_mem y;have o:∀b c,b<c->c<d.length->O d b<O d c:= λ b c Z9 f=>by
  rw[cK _ _ E,cK _ _ f];exact List.pairwise_iff_getElem.1 N b c E f Z9
 have Q:O d 0=0:=by
  obtain⟨c,f,h⟩:=kP y;have k:=Z6 _ (ms d 0 M);rcases Nat.eq_zero_or_pos c with rfl | g
  ·rw[cK _ _ f];exact h
  ·have:=o 0 c g f;rw[cK _ _ f,h] at this;omega
 have H:∀b,b+1<d.length->en a (O d (b+1)) a.length=O d b:=by
  intro b l;obtain⟨G,x,S⟩:=Cc a (O d (b+1)) u a.length aZ;have k:=o b (b+1) E l;have U:=ms d b E;have Z1:O d b<=en a (O d (b+1)) a.length:=by
   rcases(p _).1 U with g | g
   ·rw[g];exact G
   ·obtain⟨c,f,h⟩:=kP g;have i:O a c=O d b:=by rw[cK _ _ f];exact h
    rw[<- i];exact S c f (by rw[i];exact k)
  have Z3:en a (O d (b+1)) a.length<=O d b:=by
   have K:en a (O d (b+1)) a.length∈d /\ en a (O d (b+1)) a.length<O d (b+1):=by
    rcases x with g | ⟨c,f,h,L⟩
    ·rw[g];exact⟨y,by have:=o 0 (b+1) E l;omega⟩
    ·rw[<- h];exact⟨(p _).2 (aP (ms a c f)),L⟩
   obtain⟨c,f,h⟩:=kP K.1;have i:O d c=en a (O d (b+1)) a.length:=by rw[cK _ _ f];exact h
   rw[<- i] at K ⊢;rcases hX b c with g | g
   ·rcases hX (b+1) c with t | t
    ·have:=o (b+1) c t f;omega
    ·obtain rfl:c=b+1:=E;omega
   ·rcases hX c b with t | t
    ·have:=o c b t E;omega
    ·obtain rfl:c=b:=E;exact fE _
  omega
 refine⟨?_,Q,M,H⟩;have T:fD a d (d.length-1)=((cN (d.length-1)).map λ c=>O d (c+1)).foldl (hT a) (bE (2^a.length) 0):=by
  have k:fD a d (d.length-1)=bx (λ e R=>if (λ _=>ae) e then hT a R ((λ c=>O d (c+1)) e) else R) (bE (2^a.length) 0) (d.length-1):=by
   refine A8 (d.length-1) (λ w e Z2=>?_) _ aZ;simp only[if_true];unfold hT;rw[H w E]
  rw[k,Cb,List.filter_eq_self.2 (λ _ _=>rfl)]
 have i:eW a a.length=(((cN a.length).filter λ e=>i6 a e a.length).map λ e=>O a e).foldl (hT a) (bE (2^a.length) 0):=Cb _ _ _;rw[T,i];have X:∀(e q:F) (m:ac),hT a (hT a m e) q=hT a (hT a m q) e:= λ e q m=>Je _ _ _ _ _
 have Z4:∀m,hT a m 0=m:= λ m=>by
  have r:en a 0 a.length=0:=by
   obtain⟨G,x,_⟩:=Cc a 0 u a.length aZ;rcases x with g | ⟨c,f,h,L⟩
   ·exact g
   ·have:=u c f;omega
  unfold hT;rw[r];exact Jf _ _
 have Y:∀(j:ac) (n:ac),j.foldl (hT a) n=(j.filter λ e=> !(e==0)).foldl (hT a) n:=by
  intro j;induction j with
  | nil=>intro n;rfl
  | cons e Z0 v =>
   intro n
   by_cases s:e=0
   ·subst s;rw[List.foldl_cons,Z4,v];simp
   ·rw[List.foldl_cons,v];simp[s]
 rw[Y (((cN a.length).filter λ e=>i6 a e a.length).map λ e=>O a e)];refine List.Perm.foldl_eq' ?_ (λ e _ q _ m=>X e q m) _;rw[List.perm_ext_iff_of_nodup]
 ·intro e;simp only[List.mem_map,List.mem_range,List.mem_filter,Bool.not_eq_true',dx,ne_eq];constructor
  ·rintro⟨c,f,rfl⟩;have k:=o 0 (c+1) E E;refine⟨?_,E⟩;rcases(p _).1 (ms d (c+1) E) with g | g
   ·omega
   ·obtain⟨b,l,h⟩:=kP g;have i:O a b=O d (c+1):=by rw[cK _ _ l];exact h
    rw[<- i];have ZZ:∀b,b<a.length->∃j,j<a.length /\ i6 a j a.length=ae /\ O a j=O a b:=by
     intro b;induction b using Nat.strongRecOn with
     | ind b v =>
      intro l
      cases J:i6 a b a.length
      ·obtain⟨q,Z5,P⟩:=ii J;simp only[Bool.or_eq_false_iff,decide_eq_false_iff_not,Bool.not_eq_false',cR] at P;obtain⟨j,A,B,C⟩:=v q E Z5;exact⟨j,A,B,C.trans P.2⟩
      ·exact⟨b,l,J,I⟩
    obtain⟨j,A,B,C⟩:=ZZ b l;exact⟨j,⟨A,B⟩,C⟩
  ·rintro⟨⟨b,⟨l,_⟩,rfl⟩,Z7⟩;obtain⟨c,f,h⟩:=kP ((p _).2 (aP (ms a b l)));have i:O d c=O a b:=by rw[cK _ _ f];exact h
   rcases Nat.eq_zero_or_pos c with rfl | g
   ·rw[Q] at i;exact bC i.symm Z7
   ·exact⟨c-1,E,by rw[show c-1+1=c from E];exact i⟩
 ·rw[List.Nodup,List.pairwise_map];refine List.Pairwise.imp_of_mem ?_ (List.pairwise_lt_range (n:=d.length-1));intro n D z r W;rw[List.mem_range] at z r;have:=o (n+1) (D+1) E E;omega
 ·refine List.Pairwise.filter _ ?_;rw[List.pairwise_map];refine List.Pairwise.imp_of_mem ?_ (List.Pairwise.filter _ (List.pairwise_lt_range (n:=a.length)));intro n D z r W;rw[List.mem_filter,List.mem_range] at z r;have k:=(cp _ _).1 r.2 n E;simp only[Bool.or_eq_true,hB,Bool.not_eq_true',dx,ne_eq] at k;rcases k with k | k
  ·omega
  ·exact k
theorem NM (a c b:J):(⟨a,c,aj⟩:Addr).add b=⟨a,c+b,aj⟩:=by unfold Addr.add;split<;>simp_all
theorem EB {c:af} {z:bg bD} {rest:aU bD} {l:bD} {g:Act} {v:Exit->Act->af->Prop} (H:l.guard=aj) (t u:Operand)
  (P:l.op=.call {callee:=.builtin .append,args:=#[t,u],argTypes:=#[27,27]})
  (h:J) (m:ay) (n:ac) (k:J) (L:n.length=k) (R:g.eval t=m) (Q:av c h m n)
  (p s a w:J) (d:ac) (S:g.eval u=aa (Z ⟨p,s,aj⟩) a w) (b:d.length=a) (T:∀r,r<a-> c.cell? ⟨p,s+r,aj⟩=Z (M (O d r))) (N:0<a)
  (Z9:k+a<1000000000) (G:h<=c.heap.size)
  (B:∀f i e,av e h (aq f (k+a) i) (n++d)->c.grownBy e m.ownBlock->wpList prog z v rest (g.put l.dst (aq f (k+a) i)) e):
  wpList prog z v (l::rest) g c:=by
 obtain⟨X,K,U,V,W⟩:=info_parts ig;subst L;refine wpList_plain H λ _ F=>wp_append_lies c t u 27 P h 3 X (M 0) 1 8 underlying27 K U V W I aX m n.length _ R Q ⟨p,s,aj⟩ a w (d.map (ed .i64)) S (by simp[b]) ?_ ?_ N (by unfold maxLen;omega) E G _ I λ f i e C q _ _=>F _ _ (B f i e ?_ q)
 ·intro j Y o;have x:j<a:=by
   exact wM
  have D:(d.map (ed .i64))[j]? =Z (M (O d j)):=by simp[O,b,x]
  have q:=iO (o.symm.trans D);rw[q,NM];exact T j x
 ·intro Y y;simp at y;obtain⟨Z8,_,rfl⟩:=y;rfl
 ·simpa [av,b] using C
theorem av.holds {f:af} {j d e b:J} {g:ac} (m:av f j (aq d e b) g):Go.Sort.Holds (ed .i64) f d 0 g.toArray /\ e=g.length /\ e<=b /\ b<=maxLen /\ d<f.heap.size:=by
 rcases m.2 with ⟨c,_⟩ | ⟨p,o,q,c,r,h,s,n,t,i⟩
 ·cases c
 ·injection c with a k l
  injection a with a
  injection a with a
  subst a;subst l;rw[Nat.mul_one] at i;exact⟨holds_of_blockI h (by simpa using i),k,E,n,lt_of_block h⟩
theorem av.over {d:af} {e b j h q:J} {k:ac} (n:av d e (aq b j h) k) (c:ac) (i:c.length=k.length) (g:bg Obj):
  av (Go.Sort.grow (Go.Sort.putRow (ed .i64) (Go.Sort.ahead d q) b 0 c.toArray) g) e (aq b j h) c /\ d.grownBy (Go.Sort.grow (Go.Sort.putRow (ed .i64) (Go.Sort.ahead d q) b 0 c.toArray) g) (Z b):=by
 refine⟨?_,grownBy_sortedI _⟩;rcases n.2 with ⟨f,_⟩ | ⟨v,u,w,f,p,r,s,o,t,x⟩
 ·cases f
 ·injection f with a l m
  injection a with a
  injection a with a
  subst a;subst m;subst l;have:=ownsRow_sortedI (n:=q) (os:=g) (base:=e) i p r s o t;unfold av;rw[i];exact this
theorem av.front {h:af} {f e q c:J} {b r:ac} (k:av h f (aq e q c) (b++r)):av h f (aq e b.length c) b:=by
 rcases k.2 with ⟨d,_⟩ | ⟨t,s,i,d,m,n,o,l,p,g⟩
 ·cases d
 ·injection d with a u j
  injection a with a
  injection a with a
  subst a;subst j;refine⟨ar,aP ⟨e,c,i,I,m,n,by rw[dm] at o;omega,l,p,?_⟩⟩;rw[Nat.mul_one] at g ⊢;have:=be (List.take b.length) g;rw[List.take_take,g7,List.take_append_of_le_length ar,dm,Nat.min_eq_left E] at this;rw[this,jF ar]
theorem uD (b:ac) (c:F) (a:J):ew b c a<2^a:=by
 induction a with
 | zero=>exact Nat.one_pos
 | succ a f =>
  have d:ew b c (a+1)=if c<=O b a then ew b c a|||2^a else ew b c a:=rfl
  rw[d]
  have e:2^a<2^(a+1):=Nat.pow_lt_pow_right aX E
  split
  ·exact kd E e
  ·omega
theorem IW {k:J} (a:k<=16):2^k<=65536:=Nat.pow_le_pow_right (n:=2) aX a
theorem GE (d:F) (A:aG) (c l:J) (b:ac) (g:af) (i:an g A c b) (t:c<=16):
  aY prog 281 #[aa A c l,M d] g λ m k=>m=aV (M (ew b d c:J)) /\ g=k:=by
 go_enter func281,ntmps281;go_wp2;go_loop [5,6,7,10] (λ n _ _ f=>∃a:J,a<=c /\ f=M a /\ n=M (ew b d a:J)) (λ _ _ _ f=>c-(intOf f).toNat)
 case atStart=>exact⟨0,E,I,I⟩
 case round =>
  exact wo
theorem Lt (d:F) (A:aG) (c l:J) (b:ac) (g:af) (i:an g A c b) (t:c<=16):
  aY prog 210 #[aa A c l,M d] g λ m k=>m=aV (M (ew b d c:J)) /\ g=k:=by
 go_enter func210,ntmps210;go_wp2;go_loop [5,6] (λ n f=>∃a:J,a<=c /\ f=M a /\ n=M (ew b d a:J)) (λ _ f=>c-(intOf f).toNat)
 case atStart=>exact⟨0,E,I,I⟩
 case round =>
  exact wo
theorem Lu (b:ac):∀a,a<=b.length->gz b a=(b.take a).foldl max 0:=by
 intro a;induction a with
 | zero=>intro _;simp[gz,bx]
 | succ a c =>
  intro d
  rw[List.take_succ_eq_append_getElem E,List.foldl_append,<- c E]
  show max (gz b a) (O b a)=_
  rw[cK _ _ E];rfl
theorem Jg {l:ac} (d:0<l.length) (a:0<=O l 0):Lib.maxOf l=gz l l.length:=by
 rw[Lu _ _ aZ,List.take_length]
 match l,d,a with
 | b::c,_,a =>
  have a:0<=b:=a
  show (b::c).foldl max b=(b::c).foldl max 0
  rw[List.foldl_cons,List.foldl_cons,Int.max_self,nZ a]
theorem NO (b:ac) (d:F) (g:0<=d):∀a,(∀c,c<a->O b c<=d)->0<=gz b a /\ gz b a<=d:=by
 intro a;induction a with
 | zero=>intro _;exact⟨fE _,g⟩
 | succ a h =>
  intro e
  have i:=h λ c k=>e c E
  have j:=e a E
  have f:gz b (a+1)=max (gz b a) (O b a):=rfl
  rw[f];omega
theorem AP {a:ac} (b:ik a=ae):bK (a.length:F)=ae /\ a.length<=4 /\ 1<=a.length /\ (∀c,c<a.length->0<=O a c /\ O a c<=1000000) /\ 0<gz a a.length:=by
 unfold ik at b;simp only[b9,hB] at b;obtain⟨d,f,g⟩:=b;have e:1<=a.length /\ a.length<=4:=by rcases cG.1 d with b | b | b | b<;>omega
 exact⟨d,e.2,e.1,λ c h=>bM.1 ((cp _ _).1 f c h),g⟩
theorem Ac (v:aG) (x w:J) (b:ac) (m:af) (l:an m v x b):
  aY prog 278 #[aa v x w] m λ Z1 g=>Z1=aV (aw (ik b)) /\ m=g:=by
 obtain rfl:x=b.length:=l.len.symm;have o:U (ik b=(bK (b.length:F)&&(bq (λ a=>bi 0 1000000 (O b a)) b.length&&decide (0<gz b b.length)))):=rfl;cases e:bK (b.length:F)
 ·have n:U (ik b=ak):=by rw[U,o.o,e];rfl
  rw[n.o];go_enter func278,ntmps278;go_wp2_with (go_at_call 139;refine(fj _ _).mono ?_;rw[e];rintro Z1 g ⟨rfl,rfl⟩);exact mQ
 have D:1<=b.length /\ b.length<=4:=by rcases cG.1 e with p | p | p | p<;>omega
 cases k:bq (λ a=>bi 0 1000000 (O b a)) b.length
 ·obtain⟨f,Z9,G⟩:=ii k;have n:U (ik b=ak):=by rw[U,o.o,k,e];rfl
  rw[n.o];have s:=ab G;clear G k;obtain⟨c,i⟩:∃c,b.length=c:=⟨_,I⟩;rw[i] at l e D Z9 ⊢;clear i o;go_enter func278,ntmps278;go_wp2_with (go_at_call 139;refine(fj _ _).mono ?_;rw[e];rintro Z1 g ⟨rfl,rfl⟩);go_loop [4,11] (λ _ j=>∃a:J,a<=f /\ j=M a) (λ _ j=>c-(intOf j).toNat)
  case atStart=>exact⟨0,E,I⟩
  case round =>
   obtain⟨a,Z2,rfl⟩:=hrel;have r:a<c:=E;obtain⟨B,L,rfl,V,_,W⟩:=l.at bA r;cases d:bi 0 1000000 (O b a)
   ·rcases j0.1 d with p | p
    ·exact h8
    ·have Z5:¬O b a<0:=E;exact h8
   ·have t:=bM.1 d;have S:¬O b a<0:=E;have T:¬1000000<O b a:=E;refine pV ?_;intro q;clear d t;go_wp2;exact lW
 ·have u:=ab ((cp _ _).1 k);have X:=bM.1 (u.o 0 E);have z:=ab (Jg (l:=b) E X.1);have n:U (ik b=decide (0<gz b b.length)):=by rw[U,o.o,k,e];rfl
  rw[n.o,<- z.o];have K:=NO b 1000000 aX b.length (λ Z8 Y=>(bM.1 (u.o Z8 Y)).2);rw[<- z.o] at K;clear k o;obtain⟨B,L,C,V,H⟩:=l.cell E;have N:U (∀Z8,Z8<b.length-> m.cell? ⟨B,L+Z8,aj⟩=Z (M (b.getD Z8 0))):=H;have R:=ab (List.take_length (l:=b));obtain⟨y,A⟩:∃y,U (Lib.maxOf b=y):=⟨_,I⟩;rw[A.o] at K ⊢;obtain⟨c,i⟩:∃c,b.length=c:=⟨_,I⟩;have Q:U (aY prog 337 #[aa v c w] m λ Z1 g=>Z1=aV (M y) /\ g=m):=by
   rw[U,C,<- i,<- A.o];have:=Tryz.slices_Max_int B L b.length w b m E aZ E N.o;rw[R.o] at this;exact this
  have P:=ab i;rw[i] at l e D ⊢;clear i H C;go_enter func278,ntmps278;go_wp2_with (go_at_call 139;refine(fj _ _).mono ?_;rw[e];rintro Z1 g ⟨rfl,rfl⟩);go_loop [4,11] (λ _ j=>∃a:J,a<=c /\ j=M a) (λ _ j=>c-(intOf j).toNat)
  case atStart=>exact⟨0,E,I⟩
  case round =>
   obtain⟨a,Z2,rfl⟩:=hrel;by_cases r:a<c
   ·obtain⟨Z6,Z3,rfl,Z4,_,W⟩:=l.at bA r;have t:=bM.1 (u.o a (by rw[P.o];exact r));have S:¬O b a<0:=E;have T:¬1000000<O b a:=E;clear t;go_wp2;exact lW
   ·obtain rfl:a=c:=E;go_wp2_with fail;refine Q.o.mono ?_;rintro Z1 g ⟨rfl,rfl⟩;go_wp2;go_ret;exact⟨by first | rfl | simp,rfl⟩
theorem Hv (v:aG) (c l:J) (b:ac) (f:af) (j:an f v c b):
  aY prog 295 #[aa v c l] f λ m k=>m=aV (M (gz b c)) /\ f=k:=by
 have r:=j.cap;go_enter func295,ntmps295;go_wp2;go_loop [3,4] (λ o e=>∃a:J,a<=c /\ e=M a /\ o=M (gz b a)) (λ _ e=>c-(intOf e).toNat)
 case atStart=>exact⟨0,E,I,I⟩
 case round =>
  obtain⟨a,t,rfl,rfl⟩:=hrel;by_cases n:a<c
  ·obtain⟨p,u,rfl,q,_,s⟩:=j.at bA n;have g:U (gz b (a+1)=max (gz b a) (O b a)):=rfl;by_cases i:gz b a<O b a
   ·have d:=ab i;go_wp2;go_round
    case rel=>exact⟨a+1,E,by go_num,by rw[g.o,nZ (Int.le_of_lt d.o)]⟩
    case measure=>simp[intOf];omega
   ·have d:=ab i;go_wp2;go_round
    case rel=>exact⟨a+1,E,by go_num,by rw[g.o,pk (Int.not_lt.1 d.o)]⟩
    case measure=>simp[intOf];omega
  ·obtain rfl:a=c:=E;exact h8
theorem zS (p:aG) (n y:J) (b:ac) (o:af) (e:an o p n b):
  aY prog 209 #[aa p n y] o λ i K=>i=aV (aw (ik b)) /\ o=K:=by
 obtain rfl:n=b.length:=e.len.symm;have r:=e.cap;have j:U (ik b=(bK (b.length:F)&&(bq (λ a=>bi 0 1000000 (O b a)) b.length&&decide (0<gz b b.length)))):=rfl;cases g:bq (λ a=>bi 0 1000000 (O b a)) b.length
 ·obtain⟨s,C,q⟩:=ii g;have m:U (ik b=ak):=by rw[U,j.o,g];simp
  rw[m.o];have v:=ab q;clear q g;obtain⟨c,f⟩:∃c,b.length=c:=⟨_,I⟩;rw[f] at e C r ⊢;clear f j;go_enter func209,ntmps209;go_wp2;go_loop [3] (λ d=>∃a:J,a<=s /\ d=M a) (λ d=>c-(intOf d).toNat)
  case atStart=>exact⟨0,E,I⟩
  case round =>
   obtain⟨a,B,rfl⟩:=hrel;have k:a<c:=E;obtain⟨x,D,rfl,z,_,A⟩:=e.at bA k;cases l:bi 0 1000000 (O b a)
   ·go_wp2_with (go_at_call 113;refine(fM _ _ _ _).mono ?_;rw[l];rintro i K ⟨rfl,rfl⟩);exact mQ
   ·have H:a≠s:=by rintro rfl;have:=v.o;rw[l] at this;cases this
    exact wC
 ·have u:=ab ((cp _ _).1 g);have m:U (ik b=(bK (b.length:F)&&decide (0<gz b b.length))):=by rw[U,j.o,g];simp
  rw[m.o];obtain⟨c,f⟩:∃c,b.length=c:=⟨_,I⟩;have w:=ab f;rw[f] at e r ⊢;clear f j g;go_enter func209,ntmps209;go_wp2;go_loop [3] (λ d=>∃a:J,a<=c /\ d=M a) (λ d=>c-(intOf d).toNat)
  case atStart=>exact⟨0,E,I⟩
  case round =>
   obtain⟨a,B,rfl⟩:=hrel;by_cases k:a<c
   ·obtain⟨x,D,rfl,z,_,A⟩:=e.at bA k;have l:=u.o a (by rw[w.o];exact k);exact wC
   ·obtain rfl:a=c:=E;cases t:bK (a:F)
    ·exact v9
    ·exact v9
theorem NP {l a:ac} (f:∀d,d+1<a.length->O a d<=O a (d+1)) (e:O a 0=0):∀b,b<a.length->∀c,0<=O (fD l a b) c /\ O (fD l a b) c<=O a b:=by
 intro b;induction b with
 | zero=>intro _ c;rw[show fD l a 0=bE (2^l.length) 0 from rfl,eF,e];exact⟨fE _,fE _⟩
 | succ b h =>
  intro g c
  have i:=h E c
  have j:=f b g
  rw[show fD l a (b+1)=jw (fD l a b) (ew l (O a (b+1)) l.length) (O a (b+1)-O a b) from I,mg]
  split<;>omega
theorem C1 (c:ac) (b:F) (e:0<=b):∀a,0<=en c b a /\ en c b a<=b:=by
 intro a;induction a with
 | zero=>exact⟨fE _,e⟩
 | succ a f =>
  have d:en c b (a+1)=if O c a<b then max (en c b a) (O c a) else en c b a:=rfl
  rw[d];split<;>omega
theorem NQ {b:ac} (d:∀a,a<b.length->0<=O b a /\ O b a<=1000000):∀a,a<=b.length->∀c,0<=O (eW b a) c /\ O (eW b a) c<=1000000*(a:F):=by
 intro a;induction a with
 | zero=>intro _ c;rw[show eW b 0=bE (2^b.length) 0 from rfl,eF];exact⟨fE _,ar⟩
 | succ a f =>
  intro i c
  have g:=f E c
  have e:=d a E
  have h:=C1 b (O b a) e.1 b.length
  rw[show eW b (a+1)=(if i6 b a b.length then hT b (eW b a) (O b a) else eW b a) from I]
  split
  ·unfold hT;rw[mg];split<;>omega
  ·omega
end Go.Proofs.YtkjnhlpccgjfhaaGreatDoor
