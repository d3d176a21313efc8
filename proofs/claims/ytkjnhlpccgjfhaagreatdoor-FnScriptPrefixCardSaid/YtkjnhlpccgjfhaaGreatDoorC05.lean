/- A part of the proof: lemmas (my texts, shortened by a program of mine). -/
import Derived.Test.YtkjnhlpccgjfhaaGreatDoorC04
set_option linter.all false
set_option maxRecDepth 100000
set_option maxHeartbeats 4000000
namespace Go.Proofs.YtkjnhlpccgjfhaaGreatDoor
open Go.RowKit
open Go.Proofs.Tryz
open Bool renaming and_eq_true->b9,false->ak,true->ae,true_and->eo
open Classical renaming byContradiction->jJ
open Go renaming Calls->aY,Value->ay,World->af,bodyPost_ret->aK,callFunc->b0,results->aJ,wpQuiet_nil->dn
open Go.Act renaming put->aT
open Go.Ending renaming returned->aV
open Go.Obj renaming cells->al
open Go.Oper renaming upon->jC
open Go.Result renaming andThen_ok->ex
open Go.Sem renaming run->c9,run_bind->eC,run_pure->ey
open Go.Value renaming agg->ba,bool->aw,slice->aa,tuple->aL
open Go.World renaming block_lt_of_cell?->fX
open List renaming length_set->iu,replicate->bE
open Nat renaming lt_of_lt_of_le->cm
open Option renaming isNone_iff_eq_none->eB,none->aj,some->Z
open Or renaming inl->bj,inr->aP
open _root_ renaming Array->bg,Bool->a8,Int->F,List->aU,Nat->J,beq_iff_eq->cR,if_neg->aF,if_pos->a7,rfl->I
variable {p q:Prop}
theorem EX (m:F) (P ZY:aG) (g S r ZG:J) (u q:ac) (a:af) (Q:an a P g u) (C:an a ZY r q):
  bp 109 #[am m P g S,aa ZY r ZG] a (ek m u q):=by
 have Z4:=Q.below (w':=(a.alloc (al #[M m,aa P g S] 29)).alloc (al #[M 0,aa aj 0 0] 29)) ((az a _).alloc ar _);cases Z8:aI m u
 ·have H:U (ek m u q=bc.no):=by simp[U,ek,Z8]
  rw[H.o];go_enter func109,ntmps109;go_wp2_with fail;refine(dA _ _ _ _ _ _ Z4).mono ?_;refine dP ?_;intro j i c d e f l;clear i;go_wp2;exact vX
 ·obtain⟨B,Zx,ZE,ZB,_,_,_⟩:=bt Z8;clear ZB;cases z:c8 m q
  ·have H:U (ek m u q=bc.no):=by show ek m u q=bc.no;unfold ek;rw[z];simp
   rw[H.o];go_enter func109,ntmps109;go_wp2_with fail;refine(dA _ _ _ _ _ _ Z4).mono ?_;refine dP ?_;intro j i c d e f l;have A:=aS i a.heap.size 0 (M m);have Y:=C.below l;clear i;go_wp2_with (first | (go_at_call 211;refine(nw _ _ _ _ _ _ Y B).mono ?_;rw[z];rintro n ZL ⟨rfl,rfl⟩));exact vX
  ·have H:U (ek m u q=⟨m,bF (λ p=>b5 p q r) u (aH m) g,ae⟩):=by
    show ek m u q=_;unfold ek;rw[Z8,z,C.len,Q.len];rfl
   rw[H.o]
   obtain⟨Zu,ZQ⟩:=oT B z
   have Zg:m<=4 /\ 1<=m:=by
    have Zp:=cG.1 B;omega
   have Zi:r<=4:=by have:=C.len;omega
   have Z7:=ab C.len
   have ZR:=ab Q.len
   have Zh:g<=16:=by rw[<- ZR.o];exact ZE
   have Zl:=Q.cap
   have ZZ:U (∀b,b<r->0<=O q b /\ O q b<=28):= λ b T=>by have:=ZQ b (by rw[Z7.o];exact T);omega
   have Z0:U (∀p,b5 p q r<aH m):= λ p=>by rw[<- Z7.o];exact tC B z p
   have W:g=aH m:=by rw[<- ZR.o];exact Zx
   have Z1:=ab W
   have ZJ:U (∀p x,p<g->x<g->b5 p q r=b5 x q r->p=x):= λ p x ZD ZC=>by
    have:=((kz B).2 z).1 p x (by rw[<- W];exact ZD) (by rw[<- W];exact ZC);rwa [Z7.o] at this
   clear ZQ Zu W
   go_enter func109,ntmps109
   go_wp2_with fail
   refine(dA _ _ _ _ _ _ Z4).mono ?_;rintro n j ⟨rfl,i⟩
   obtain⟨c,d,e,f⟩:=cj (a.heap.size+1) i ar
   have l:ap a j:=dz i
   have A:=aS i a.heap.size 0 (M m)
   have X:=aS i a.heap.size 1 (aa P g S)
   have Y:=C.below l
   have Zf:a.heap.size+1<j.heap.size:=b6 c
   clear i
   go_wp2_with (first | (go_at_call 211;refine(nw _ _ _ _ _ _ Y B).mono ?_;rw[z];rintro n ZL ⟨rfl,rfl⟩))
   refine EW (λ p x y=>((((((((p.put (Z 19) (br a.heap.size)).put (Z 20) (M m)).put (Z 21) (.pointer (Z (ad a.heap.size 1)))).put (Z 22) (aa P g S)).put (Z 23) (M g)).put (Z 24) (aq y g g)).put (Z 25) (ba #[M m,aq y g g])).put (Z 6) (br x))) m g ?_ ?_
   ·go_region_with (first | (refine j1 (w:=(j.alloc _).drew) (X:= λ Z2=>jC prog _ _ _ _ (Z2.andThen _)) g E ?_;intro R Z5 w ZN;have Zt:=aS w j.heap.size 0 (M 0);have Zs:=aS w j.heap.size 1 (aa aj 0 0);have Ze:=aB w (a:=(ad j.heap.size 0)) (v:=M 0) ar ar;have Zd:=aB w (a:=(ad j.heap.size 1)) (v:=aa aj 0 0) ar ar;have A:=ag w (a:=(ad a.heap.size 0)) (v:=M m) (by simp[A]);go_simp) | (refine j1 (w:=j.drew) (X:= λ Z2=>jC prog _ _ _ _ (Z2.andThen _)) g E ?_;intro R Z5 w ZN;have A:=ag w (a:=(ad a.heap.size 0)) (v:=M m) (by simp[A]);go_simp));all_goals first | (refine⟨R.heap.size,j.heap.size,?_,IQ _ rfl Z5 w ZN⟩;simp[aT];done) | (refine⟨j.heap.size,j.heap.size+1,?_,HK rfl (W:=(j.alloc _).drew) ar ((az j _).drew) Z5 w ⟨_,Zt⟩ ⟨_,Zs⟩⟩;simp[aT];done)
   ·intro x y R v;have V:=au l v.below;have Z6:=v.row;have ZW:=v.c0;have ZV:=v.c1;have ZS:=v.ne;replace X:=ag v.below X;replace e:=aB v.below c e;replace f:=aB v.below d f;replace c:=ag v.below c;replace d:=ag v.below d;have ZI:U (∀b,b<g->bF (λ p=>b5 p q r) u (aH m) (b+1)=(bF (λ p=>b5 p q r) u (aH m) b).set (b5 b q r) (O u b)):= λ b T=>by
     have n:=Bp (λ p=>b5 p q r) u (aH m) g (λ p _=>Z0.o p) ZJ.o b E b T;rw[aF (Nat.lt_irrefl b)] at n;show (bF (λ p=>b5 p q r) u (aH m) b).set (b5 b q r) (O (bF (λ p=>b5 p q r) u (aH m) b) (b5 b q r)+O u b)=_;rw[n,Int.zero_add]
    have ZM:av R j.heap.size (aq y g g) (bF (λ p=>b5 p q r) u (aH m) 0):=by
     show av _ _ _ (bE (aH m) 0);rw[<- Z1.o];exact Z6
    have Zj:=Z6.block y I;clear v Z6 A Y;go_wp2_with fail;go_loopw [7] (λ Z3 wr=>∃b:J,b<=g /\ Z3=M b /\ av wr j.heap.size (aq y g g) (bF (λ p=>b5 p q r) u (aH m) b) /\ R.grownBy wr (Z y)) (λ Z3 _=>g-(intOf Z3).toNat)
    case atStart=>exact⟨0,E,I,ZM,hI _ _⟩
    case round =>
     obtain⟨b,T,rfl,t,o⟩:=hrel;refine mX ?_;intro s;have Zw:=cW o X E;have ZA:=cW o ZW ZS;have Zz:=cW o ZV ZS;by_cases ZT:b<g
     ·obtain⟨Zq,Zc,rfl,Zm,Zr,Zk⟩:=Q.at s ZT;have ZO:=C.below s;have ZX:b5 b q r<g:=by rw[Z1.o];exact Z0.o b
      have Zo:(0:F)<=(b5 b q r:F):=E;have Zn:((b5 b q r:J):F)<(g:F):=E;refine k7 ?_;intro G Z9;obtain⟨D,N,_⟩:=t.cellAt ZX;go_wp2;refine ei 11 ah ah (λ _ _ _ _ _ ZF=>ZF) ?_;refine dY ?_;repeat (first | go_big_quiet_step ((go_at_call 212;exact ej (tY _ _ _ _ _ _ E (ZO.below (aM _ _)) E ZZ.o))) | quiet_step ((go_at_call 212;exact ej (tY _ _ _ _ _ _ E (ZO.below (aM _ _)) E ZZ.o))))
      refine et ?_;intro L k;refine ou ?_;intro K N D;obtain⟨Zb,ZP,Zv,ZU⟩:=dC K ZX (O u b);have ZK:=ab (eO (eO o (iC k (Z y))) ZU);have ZH:=ab ZP;clear ZP ZU K t k Zw o ZA Zz;go_wp2;rw[ZH.o];go_roundw
      case rel=>exact⟨b+1,E,by go_num,by rw[ZI.o b ZT];exact Zv,ZK.o⟩
      case measure=>simp[intOf];omega
     ·have Zy:b=g:=E;subst Zy;replace e:=eQ o c E e;replace f:=eQ o d E f;replace c:=cW o c E;replace d:=cW o d E;clear o ZW ZV X;go_wp2;refine aK (by simp[aJ,results109,go_sem,c,d]) I ⟨⟨_,I,((t.setBelow (by simp;omega) _).setBelow (by simp;omega) _).mono E⟩,?_⟩;exact bB
theorem nj (a:F) (d:aG) (e f:J) (c:ac) (b:af) (j:an b d e c):
  aC 285 #[am a d e f] b (aw (aI a c&&(a==4))):=by
 go_enter func285,ntmps285;go_wp2_with fail;refine(dA _ _ _ _ _ _ (j.below (az b _))).mono ?_;rintro k n ⟨rfl,o⟩;obtain⟨l,m,g⟩:=dZ o;cases i:aI a c;all_goals
  go_wp2;go_ret;exact⟨ct (by simp[i]),g⟩
def fb (d:F) (c b:ac) (a:F):bc :=
 if aI d c&&bK a&&eS b d a then bh a (bF (λ e=>b5 e b b.length) c (aH a) c.length) else bc.no
theorem FM (d g:J) (p:aG) (a j:J) (c:ac) (b:af) (k:d<1000000000) (o: b.cell? (ad g 0)=Z (aa p a j)) (n:an b p a c) (m:a<=29) (l:∀e,e<a->0<=O c e /\ O c e<=28):
  aY prog 304 #[M d,br g] b λ i f=>i=aV (M (b5 d c a)) /\ b=f:=by
 go_enter func304,ntmps304;go_wp2_with (first | (go_at_call 276;refine(AF _ _ _ _ _ _ k n m l).mono ?_;rintro i f ⟨rfl,rfl⟩));go_ret;exact⟨I,I⟩
theorem Fo (c:bg ay) (a:af):c9 prog (b0 304 c) a=.ok (.enter 304 c) a:=by
 have g:(Tryz.f304.name== "runtime.NumGoroutine")=ak:=ah;have b:Tryz.f304.body.isNone=ak:=ah;have d:¬Tryz.f304.name= "runtime.NumGoroutine" :=by simpa using g
 have e:¬Tryz.f304.body=aj:=by intro f;rw[f] at b;simp at b
 simp only[b0,eC,run_program,ex,func304,cR,eB,aF d,aF e,ey]
theorem zT (g o:F) (q L:aG) (m r w N:J) (j p:ac) (a:af) (z:an a q m j) (x:an a L w p):
  bp 229 #[am g q m r,aa L w N,M o] a (fb g j p o):=by
 have D:=z.below (w':=((a.alloc (al #[M g,aa q m r] 29)).alloc (al #[aa L w N] 27)).alloc (al #[M 0,aa aj 0 0] 29)) (((az a _).alloc ar _).alloc bO _);cases C:aI g j
 ·have K:U (fb g j p o=bc.no):=by simp[U,fb,C]
  rw[K.o];go_enter func229,ntmps229;go_wp2_with fail;refine mY ?_;intro u i c d e f b;clear i;go_wp2;refine aK (v:=aL #[am 0 aj 0 0,aw ak]) (by simp[aJ,results229,go_sem,c,d]) I ⟨?_,?_⟩
  ·exact b1.no _ _
  ·exact bB
 ·obtain⟨Y0,ZS,Z0,W,_,_,_⟩:=bt C;have Z4:=ab W;clear W;cases k:(bK o&&eS p g o)
  ·have K:U (fb g j p o=bc.no):=by
    show fb g j p o=bc.no;unfold fb;rw[C,eo,k];rfl
   rw[K.o]
   have Z5:bK o=ak \/ (bK o=ae /\ eS p g o=ak):=by
    exact wF
   rcases Z5 with Y | ⟨Y,ZF⟩
   all_goals
    go_enter func229,ntmps229;go_wp2_with fail;refine(cn _ _ _ _ _ _ D).mono ?_;rintro n u ⟨rfl,i⟩;obtain⟨c,d,e,f⟩:=cj (a.heap.size+1+1) i ar;have b:ap a u:=(((az a _).alloc ar _).alloc bO _).trans (i.mono bO);have Z9:=aS i (a.heap.size+1) 0 (aa L w N);have s:=aS i a.heap.size 0 (M g);have R:=x.below b;clear i;go_wp2_with (first | (go_at_call 139;refine(fj _ _).mono ?_;rintro n G ⟨rfl,rfl⟩) | (go_at_call 303;refine(qu _ _ _ _ _ _ _ R).mono ?_;rintro n G ⟨rfl,rfl⟩));refine aK (v:=aL #[am 0 aj 0 0,aw ak]) (by simp[aJ,results229,go_sem,c,d]) I ⟨?_,?_⟩
    ·exact b1.no _ _
    ·exact bB
  ·have A:bK o=ae:=by cases Y:bK o<;>simp[Y] at k;rfl
   have X:eS p g o=ae:=by rw[A] at k;simpa using k
   have K:U (fb g j p o=bh o (bF (λ v=>b5 v p w) j (aH o) m)):=by
    show fb g j p o=_;unfold fb;exact pM
   rw[K.o];obtain⟨ZY,Z6⟩:=qm X;have ZQ:g<=4 /\ o<=4 /\ 1<=o:=by
    exact py
   have ZR:w<=4:=by have:=x.len;omega
   have Z2:=ab x.len;have T:=ab z.len;have Z1:U (∀l,l<w->0<=O p l /\ O p l<=28):= λ l S=>by have:=Z6 l (by rw[Z2.o];exact S);omega
   have Z3:U (∀v,b5 v p w<aH o):= λ v=>by
    exact yn
   clear Z6 ZY k;go_enter func229,ntmps229;go_wp2_with fail;refine mY ?_;intro u i c d e f b;have Z9:=aS i (a.heap.size+1) 0 (aa L w N);refine fg ?_;intro s t;have R:=x.below b;have ZW:=z.below b;refine m6 ?_;intro ZP;clear i;go_wp2_with (first | (go_at_call 139;refine(fj _ _).mono ?_;rintro n G ⟨rfl,rfl⟩) | (go_at_call 303;refine(qu _ _ _ _ _ _ _ R).mono ?_;rintro n G ⟨rfl,rfl⟩) | (go_at_call 227;fail));refine(oS g o q m r j 304 #[br (a.heap.size+1)] (λ v=>b5 v p w) u ZW (by rw[<- T.o];exact Z0) A Fo (λ l S=>Z4.o l (by rw[T.o];exact S)) (λ v _=>Z3.o v) (λ v G ZT V=>?_)).mono ?_
   ·exact(FM v _ _ _ _ _ G (by have:=T.o;omega) (ag V Z9) (R.below V) E Z1.o).mono λ n ZV ⟨ZZ,ZX⟩=>⟨ZZ,lb ZX⟩
   refine k2 ?_;intro Z7 H Q P B y Z8;refine kY ?_;intro e f c d;have ZU:=au b y;go_wp2;refine aK (by simp[aJ,results229,go_sem,c,d]) I ⟨⟨_,I,((B.setBelow (by simp;omega) _).setBelow (by simp;omega) _).mono E⟩,?_⟩;exact bB
theorem zC (s o:F) (Z4 ZL:aG) (g ZX w ZB:J) (r p:ac) (a:af) (z:an a Z4 g r) (x:an a ZL w p) (A:bK o=ae):
  bp 286 #[am s Z4 g ZX,aa ZL w ZB,M o] a (fb s r p o):=by
 have ZU:=z.below (w':=(a.alloc (al #[M s,aa Z4 g ZX] 29)).alloc (al #[M 0,aa aj 0 0] 29)) ((az a _).alloc ar _);cases C:aI s r
 ·have Z5:U (fb s r p o=bc.no):=by simp[U,fb,C]
  rw[Z5.o];go_enter func286,ntmps286;go_wp2_with fail;refine(dA _ _ _ _ _ _ ZU).mono ?_;refine dP ?_;intro j i c d e f l;clear i;go_wp2;refine aK (v:=aL #[am 0 aj 0 0,aw ak]) (by simp[aJ,results286,go_sem,c,d]) I ⟨?_,?_⟩
  ·exact b1.no _ _
  ·exact bB
 ·obtain⟨Y0,Zb,Zv,ZW,_,_,_⟩:=bt C;have ZN:=ab ZW;clear ZW;cases X:eS p s o
  ·have Z5:U (fb s r p o=bc.no):=by
    show fb s r p o=bc.no;unfold fb;rw[C,A,X];rfl
   rw[Z5.o]
   go_enter func286,ntmps286
   go_wp2_with fail
   refine(dA _ _ _ _ _ _ ZU).mono ?_;rintro n j ⟨rfl,i⟩
   obtain⟨c,d,e,f⟩:=cj (a.heap.size+1) i ar
   have l:ap a j:=dz i
   have ZI:=aS i a.heap.size 0 (M s)
   have Z0:=x.below l
   clear i
   go_wp2_with (first | (go_at_call 342;refine(qF _ _ _ _ _ _ _ Z0 Y0 A).mono ?_;rintro n ZO ⟨rfl,rfl⟩))
   refine aK (v:=aL #[am 0 aj 0 0,aw ak]) (by simp[aJ,results286,go_sem,c,d]) I ⟨?_,?_⟩
   ·exact b1.no _ _
   ·exact bB
  ·have Z5:U (fb s r p o=bh o (bF (λ v=>b5 v p w) r (aH o) g)):=by
    show fb s r p o=_;unfold fb;exact pM
   rw[Z5.o]
   obtain⟨Zq,Z6⟩:=qm X
   have Y8:s<=4 /\ o<=4 /\ 1<=o:=by
    exact py
   have Za:w<=4:=by have:=x.len;omega
   have Z2:=ab x.len
   have ZV:=ab z.len
   have Y9:g<=16:=by rw[<- ZV.o];exact Zv
   have Zf:=z.cap
   have ZC:U (∀b,b<w->0<=O p b /\ O p b<=28):= λ b Z3=>by have:=Z6 b (by rw[Z2.o];exact Z3);omega
   have ZD:U (∀v,b5 v p w<aH o):= λ v=>by
    exact yn
   have ZM:=ab (mh (λ v=>b5 v p w) r (aH o) g 1000000 E (λ b Z3=>ZN.o b (by rw[ZV.o];exact Z3)))
   have ZH:=ho A
   have Zr:=b8 A
   clear Z6 Zq
   go_enter func286,ntmps286
   go_wp2_with fail
   refine(dA _ _ _ _ _ _ ZU).mono ?_;rintro n j ⟨rfl,i⟩
   obtain⟨c,d,e,f⟩:=cj (a.heap.size+1) i ar
   have l:ap a j:=dz i
   have ZI:=aS i a.heap.size 0 (M s)
   have Z1:=aS i a.heap.size 1 (aa Z4 g ZX)
   have Z0:=x.below l
   have Y6:a.heap.size+1<j.heap.size:=b6 c
   clear i
   go_wp2_with (first | (go_at_call 342;refine(qF _ _ _ _ _ _ _ Z0 Y0 A).mono ?_;rintro n ZO ⟨rfl,rfl⟩) | (at_make;refine e6 rfl _ _ rfl (aH o) _ _ rfl rfl ZH ZH E ?_;intro Zo Zs u Y5))
   replace Z1:=ag u Z1
   replace e:=aB u c e
   replace f:=aB u d f
   replace c:=ag u c
   replace d:=ag u d
   have R:=au l u
   clear ZI u Z0
   go_loopw [9,10] (λ ZT _ wr=>∃b:J,b<=g /\ ZT=M b /\ av wr j.heap.size (aq j.heap.size (aH o) (aH o)) (bF (λ v=>b5 v p w) r (aH o) b) /\ Below j.heap.size Zo wr) (λ ZT _ _=>g-(intOf ZT).toNat)
   case atStart=>exact⟨0,E,I,Zs,Below.refl _ _⟩
   case round =>
    obtain⟨b,Z3,rfl,t,m⟩:=hrel;refine l1 ?_;intro q;have ZE:=dL m E Z1;by_cases ZJ:b<g
    ·obtain⟨Zj,Y2,rfl,Zg,Zm,Ze⟩:=z.at q ZJ;have Zp:=x.below q;have Y7:=ZN.o b (by rw[ZV.o];exact ZJ);have ZK:=ZD.o b;have ZW:=ZM.o b E (b5 b p w);have Zc:(b:F)<=16:=E;refine k7 ?_;intro G Z9;obtain⟨D,N,_⟩:=t.cellAt ZK;go_wp2_with (first | (go_at_call 212;refine(tY _ _ _ _ _ _ E Zp E ZC.o).mono ?_;rintro n ZO ⟨rfl,rfl⟩));refine ei 13 ah ah (λ _ _ _ _ _ Zw=>Zw) ?_;refine dY ?_;repeat (first | go_big_quiet_step ((fail)) | quiet_step ((fail)))
     refine et ?_;intro L k;refine ou ?_;intro K N D;obtain⟨Y1,ZR,ZY,ZS⟩:=dC K ZK (O (bF (λ v=>b5 v p w) r (aH o) b) (b5 b p w)+O r b);exact w9
    ·have Zt:b=g:=E;subst Zt;refine td ?_;intro S T V W;obtain⟨Zk,Y3,Zi,ZA,Zu⟩:=t.ints;injection ZA with Zz Zy Zx
     subst Zz Zy Zx;have ZG:=ab (λ ZZ (Zd:ZZ<aH o)=>(by have:=ZM.o b aZ ZZ;omega:0<=O (bF (λ v=>b5 v p w) r (aH o) b) ZZ /\ O (bF (λ v=>b5 v p w) r (aH o) b) ZZ<=4000000000000000000));have Y4:a.heap.size+1<wr.heap.size:=by have:=m.size;omega
     clear c d e f Z1;go_wp2_with fail;refine(hk _ _ _ _ _ _ Zu Zr.2 ZG.o).mono ?_;refine k2 ?_;intro Z7 H Q P B y Z8;have c:=S;have d:=T;have e:=V;have f:=W;clear S T V W;refine kY ?_;intro e f c d;have Zh:=au q y;go_wp2;refine aK (by simp[aJ,results286,go_sem,c,d]) I ⟨⟨_,I,((B.setBelow (by simp;omega) _).setBelow (by simp;omega) _).mono E⟩,?_⟩;exact bB
def dR (a c:ac):a8:=(a.length==c.length)&&bq (λ b=>O a b==O c b) a.length
theorem BI {b c:ac} {a:J} (e:a<b.length) (d:O b a≠O c a):dR b c=ak:=by
 unfold dR;rw[jn (p:= λ a=>O b a==O c a) e (by simpa using d)];simp
theorem uj {b c:ac} (f:b.length=c.length) (d:∀a,a<b.length->O b a=O c a):dR b c=ae:=by
 unfold dR;rw[(cp _ _).2 λ a e=>by simpa using d a e,f];simp
theorem Bc (c d:ac) (b:J) (h:c.length=b):(∀a,a<b->O c a=O d a) \/ ∃a,a<b /\ O c a≠O d a:=by
 by_cases e:∃a,a<b /\ O c a≠O d a
 ·exact aP e
 ·exact bj λ a g=>jJ λ f=>e ⟨a,g,f⟩
theorem Bd (s v:aG) (g R o S:J) (c d:ac) (l:af) (j:an l s g c) (n:an l v o d):
  aC 350 #[aa s g R,aa v o S] l (aw (dR c d)):=by
 have Z7:=j.cap;have Z8:=n.cap;have m:=ab j.len;have A:=ab n.len;by_cases x:g=o
 ·subst x;have y:((g:F) != (g:F))=ak:=ar;rcases Bc c d g j.len with p | ⟨B,G,q⟩
  ·have e:U (dR c d=ae):=uj (by rw[m.o,A.o]) (λ b r=>p b (by rw[<- m.o];exact r));have H:=ab p;clear p;go_enter func350,ntmps350;go_wp2;go_loopw [5,13] (λ _ f wr=>∃b:J,b<=g /\ f=M b /\ ap l wr) (λ _ f _=>g-(intOf f).toNat)
   case atStart=>exact⟨0,E,I,Below.refl _ _⟩
   case round =>
    obtain⟨b,r,rfl,a⟩:=hrel;by_cases i:b<g
    ·obtain⟨N,X,rfl,T,C,W⟩:=j.at a i;obtain⟨P,Y,rfl,V,D,w⟩:=n.at a i;rw[<- H.o b i] at w;have z:((O c b) != (O c b))=ak:=ar;refine k7 ?_;intro G Z9;exact wq
    ·go_wp2;go_ret;exact⟨ct e.o.symm,a⟩
  ·have e:U (dR c d=ak):=BI (by rw[m.o];exact G) q;have K:=ab q;clear q;go_enter func350,ntmps350;go_wp2;go_loopw [5,13] (λ _ f wr=>∃b:J,b<=B /\ f=M b /\ ap l wr) (λ _ f _=>g-(intOf f).toNat)
   case atStart=>exact⟨0,E,I,Below.refl _ _⟩
   case round =>
    obtain⟨b,r,rfl,a⟩:=hrel;have i:b<g:=E;obtain⟨N,X,rfl,T,C,W⟩:=j.at a i;obtain⟨P,Y,rfl,V,D,w⟩:=n.at a i;refine mS ?_;intro t u;cases z:((O c b) != (O d b))
    ·have y:b≠B:=by rintro rfl;exact K.o (by simpa using z)
     exact wq
    ·exact xR
 ·have e:U (dR c d=ak):=by show dR c d=ak;unfold dR;rw[m.o,A.o];simp[x]
  have y:((g:F) != (o:F))=ae:=by simp;omega
  go_enter func350,ntmps350;go_wp2;go_ret;exact⟨ct e.o.symm,Below.refl _ _⟩
theorem tM (r s:F) (i j:aG) (g m n:J) (d p:ac) (c:af) (q:an c i g d) (H:an c j g p):
  aC 178 #[am r i g m,am s j g n] c (aw (dR d p)):=by
 have Z1:=q.cap;have D:=ab q.len;have Z4:=ab H.len;have x:Below c.heap.size c ((c.alloc (al #[M r,aa i g m] 29)).alloc (al #[M s,aa j g n] 29)):=(az c _).alloc ar _;have B:((c.alloc (al #[M r,aa i g m] 29)).alloc (al #[M s,aa j g n] 29)).cell? (ad c.heap.size 1)=Z (aa i g m):=ar;have C:((c.alloc (al #[M r,aa i g m] 29)).alloc (al #[M s,aa j g n] 29)).cell? (ad (c.heap.size+1) 1)=Z (aa j g n):=ar;obtain⟨v,w⟩:∃v,U ((c.alloc (al #[M r,aa i g m] 29)).alloc (al #[M s,aa j g n] 29)=v):=⟨_,I⟩;rw[w.o] at x B C;rcases Bc d p g q.len with y | ⟨P,G,z⟩
 ·have e:U (dR d p=ae):=uj (by rw[D.o,Z4.o]) (λ b A=>y b (by rw[<- D.o];exact A));have W:=ab y;clear y;go_enter func178,ntmps178;go_wp2;rw[w.o];go_loopw [5] (λ l wr=>∃b:J,b<=g /\ l=M b /\ ap v wr) (λ l _=>g-(intOf l).toNat)
  case atStart=>exact⟨0,E,I,Below.refl _ _⟩
  case round =>
   obtain⟨b,A,rfl,f⟩:=hrel;have a:=au x f;have T:=ag f B;have V:=ag f C;by_cases o:b<g
   ·obtain⟨Y,Z3,rfl,Z7,R,Z5⟩:=q.at a o;obtain⟨Z8,Z2,rfl,Z6,S,K⟩:=H.at a o;rw[<- W.o b o] at K;have N:((O d b) != (O d b))=ak:=ar;refine k7 ?_;intro G Z9;exact xo
   ·go_wp2;go_ret;exact⟨ct e.o.symm,a⟩
 ·have e:U (dR d p=ak):=BI (by rw[D.o];exact G) z;have X:=ab z;clear z;go_enter func178,ntmps178;go_wp2;rw[w.o];go_loopw [5] (λ l wr=>∃b:J,b<=P /\ l=M b /\ ap v wr) (λ l _=>g-(intOf l).toNat)
  case atStart=>exact⟨0,E,I,Below.refl _ _⟩
  case round =>
   obtain⟨b,A,rfl,f⟩:=hrel;have a:=au x f;have T:=ag f B;have V:=ag f C;have o:b<g:=E;obtain⟨Y,Z3,rfl,Z7,R,Z5⟩:=q.at a o;obtain⟨Z8,Z2,rfl,Z6,S,K⟩:=H.at a o;refine mS ?_;intro t u;cases N:((O d b) != (O p b))
   ·have Z0:b≠P:=by rintro rfl;exact X.o (by simpa using N)
    exact xo
   ·exact xR
def iB (a:J) (c:J) (b d:F):ac :=
 ((bE a (0:F)).set c b).set (a-1) (O ((bE a (0:F)).set c b) (a-1)+(d-b))
def gq (a b d c:F):bc:=if b4 a b&&gY d c then bh a (iB (aH a) b.toNat d c) else bc.no
theorem zU (b c:J) (f g:F) (a:J) (e:a<b):O (iB b c f g) a=(if c=a then f else 0)+(if b-1=a then g-f else 0):=by
 unfold iB;rw[cO,cO,cO,eF,eF];simp only[iu,List.length_replicate];by_cases h:b-1=a
 ·subst h;rw[a7 ⟨rfl,e⟩,a7 rfl];by_cases d:c=b-1<;>simp[d,e];try omega
 ·rw[aF E,aF h];by_cases d:c=a<;>simp[d,e]
theorem EY (a b:J) (c e:F) (j:b<a):
  ((bE a (0:F)).set (a-1) (e-c)).set b (O ((bE a (0:F)).set (a-1) (e-c)) b+c)=iB a b c e:=by
 apply kI
 ·simp[iB]
 ·intro g i;have d:g<a:=by simpa using i
  rw[zU _ _ _ _ _ d,cO,cO,cO,eF,eF];simp only[iu,List.length_replicate];by_cases h:b=g
  ·subst h;by_cases f:a-1=b<;>simp[f,d];omega
  ·by_cases f:a-1=g<;>simp[h,f,d]
theorem oU {b a:F} (c:gY b a=ae):0<=b /\ b<=a /\ 1<=a /\ a<=1000000000:=by
 simp only[gY,bH,b9,bM] at c;omega
theorem z6 (c e:J) (d a:F) (f:gY d a=ae) (b:J) (g:b<c):0<=O (iB c e d a) b /\ O (iB c e d a) b<=4000000000000000000:=by
 have:=oU f;rw[zU _ _ _ _ _ g];split<;>split<;>omega
theorem AG {b a e c:F} (d:b4 b a=ak):gq b a e c=bc.no:=by simp[gq,d]
theorem zX {e c b a:F} (d:gY b a=ak):gq e c b a=bc.no:=by simp[gq,d]
theorem Be {a b d c:F} (e:b4 a b=ae) (f:gY d c=ae):gq a b d c=bh a (iB (aH a) b.toNat d c):=by simp[gq,e,f]
theorem CC {c b:F} (a:b4 c b=ae):bK c=ae /\ 0<=b /\ b<=(aH c:F)-1:=by
 simp only[b4,b9,bM] at a;exact⟨a.1,a.2.1,a.2.2⟩
theorem FN (g b m s:F) (a:af):
  bp 162 #[M g,M b,ba #[M m,M s]] a (gq g b m s):=by
 cases w:b4 g b
 ·rw[AG w];cases o:bK g
  ·go_enter func162,ntmps162;go_wp2_with (first | (go_at_call 139;refine(fj _ _).mono ?_;rintro n G ⟨rfl,rfl⟩));exact wA
  ·have v:bi 0 ((aH g:F)-1) b=ak:=by simpa [b4,o] using w
   go_enter func162,ntmps162;go_wp2_with (first | (go_at_call 139;refine(fj _ _).mono ?_;rintro n G ⟨rfl,rfl⟩) | (go_at_call 140;refine(fh _ _ _ o).mono ?_;rintro n G ⟨rfl,rfl⟩));exact wA
 ·obtain⟨o,ZJ,ZI⟩:=CC w;refine mU ?_;intro v;cases U:gY m s
  ·rw[zX U];go_enter func162,ntmps162;go_wp2_with (first | (go_at_call 139;refine(fj _ _).mono ?_;rintro n G ⟨rfl,rfl⟩) | (go_at_call 140;refine(fh _ _ _ o).mono ?_;rintro n G ⟨rfl,rfl⟩) | (go_at_call 272;fail));refine(qE _ _ _).mono ?_;rintro n j ⟨rfl,i⟩;refine yE ?_;intro c d R S;refine e5 ?_;intro l;clear i;go_wp2;refine aK (v:=aL #[am 0 aj 0 0,aw ak]) (by simp[aJ,results162,go_sem,c,d]) I ⟨?_,?_⟩
   ·exact b1.no _ _
   ·exact bB
  ·obtain⟨q,rfl⟩:∃q:J,b=(q:F):=⟨b.toNat,E⟩;rw[Be w U];have ZH:=oU U;have Z2:=ho o;refine l2 ?_;intro D;have ZQ:=b8 o;go_enter func162,ntmps162;go_wp2_with (first | (go_at_call 139;refine(fj _ _).mono ?_;rintro n G ⟨rfl,rfl⟩) | (go_at_call 140;refine(fh _ _ _ o).mono ?_;rintro n G ⟨rfl,rfl⟩) | (go_at_call 272;fail));refine(qE _ _ _).mono ?_;rintro n j ⟨rfl,i⟩;have z:=aS i a.heap.size 0 (M m);have A:=aS i a.heap.size 1 (M s);refine yE ?_;intro c d R S;refine e5 ?_;intro l;have ZP:=fX j _ c;simp only at ZP;clear i;go_wp2_with (at_make;refine e6 I _ _ I (aH g) _ _ I I Z2 Z2 E ?_;intro ZD x t ZE);replace z:=ag t z;replace A:=ag t A;have e:=aB t c R;have f:=aB t d S;replace c:=ag t c;replace d:=ag t d;have Z9:=au l t;have Z4:q<aH g:=E;obtain⟨N,V,_⟩:=x.cellAt Z4;rw[eF] at N;clear t R S;go_wp2;refine ei 8 ah ah (λ _ _ _ _ _ r=>r) ?_;refine dY ?_;repeat (first | go_big_quiet_step ((fail)) | quiet_step ((fail)))
   refine et ?_;intro L k;replace z:=ag k z;replace A:=ag k A;refine oq ?_;intro e f c d;replace x:=x.below k;have X:=au Z9 k;replace V:=aB k N V;replace N:=ag k N;clear k Z9;go_wp2;obtain⟨ZC,Z1,ZB,u⟩:=dC x Z4 m;rw[Z1];replace e:=eQ u c E e;replace f:=eQ u d E f;replace z:=cW u z E;replace A:=cW u A E;replace c:=cW u c E;replace d:=cW u d E;have Z6:=iD X X.size u l.size;clear Z1 u x N V X;have Z3:aH g-1<aH g:=E;obtain⟨T,W,_⟩:=ZB.cellAt Z3;have ZF:0<=O ((bE (aH g) 0).set q m) (aH g-1) /\ O ((bE (aH g) 0).set q m) (aH g-1)<=m:=by
    rw[cO,eF];split<;>omega
   refine ei 12 ah ah (λ _ _ _ _ _ r=>r) ?_;refine dY ?_;repeat (first | go_big_quiet_step ((go_at_call 224;exact ej (me _ _ o))) | quiet_step ((go_at_call 224;exact ej (me _ _ o))))
   refine ko ?_;intro C p;refine h9 ?_;intro e f c d;replace W:=aB p T W;replace T:=ag p T;have x:=ZB.below p;have Y:=au Z6 p;clear p ZB Z6 z A;go_wp2_with fail;obtain⟨ZZ,Z0,ZR,K⟩:=dC x Z3 (O ((bE (aH g) 0).set q m) (aH g-1)+(s-m));rw[Z0];replace e:=eQ K c E e;replace f:=eQ K d E f;replace c:=cW K c E;replace d:=cW K d E;have ZT:=iD Y Y.size K l.size;clear Z0 K x Y T W;obtain⟨ZL,ZM,ZN,ZY,Z5⟩:=ZR.ints;injection ZY with ZW ZV ZU
   subst ZW ZV ZU;change an ZZ _ _ (iB (aH g) q m s) at Z5;refine(jl _ _ _ _ _ _ Z5 ZQ.2 (λ ZO ZS=>z6 _ _ _ _ U ZO ZS)).mono ?_;refine k2 ?_;intro Z7 H Q P B y Z8;have ZX:=c;refine kY ?_;intro e f c d;have ZK:=au ZT y;have ZG:a.heap.size+1<ZZ.heap.size:=b6 ZX;go_wp2;refine aK (v:=aL #[ba #[M (bh g (iB (aH g) q m s)).size,aa H Q P],aw (bh g (iB (aH g) q m s)).ok]) (by simp[aJ,results162,go_sem,c,d]) I ⟨?_,?_⟩
   ·exact⟨_,I,((B.setBelow (by simp;omega) _).setBelow (by simp;omega) _).mono E⟩
   ·exact bB
theorem D5 (g u b k:F) (a:af):
  bp 102 #[M g,M u,ba #[M b,M k]] a (gq g u b k):=by
 cases S:b4 g u
 ·rw[AG S];go_enter func102,ntmps102;go_wp2_with (first | (go_at_call 95;refine(ni _ _ _).mono ?_;rintro n V ⟨rfl,rfl⟩));refine aK (v:=aL #[am 0 aj 0 0,aw ak]) (by simp[aJ,results102,go_sem]) I ⟨?_,?_⟩
  ·exact b1.no _ _
  ·exact bB
 ·obtain⟨o,ZN,ZM⟩:=CC S;cases x:gY b k
  ·rw[zX x];go_enter func102,ntmps102;go_wp2_with (first | (go_at_call 95;refine(ni _ _ _).mono ?_;rintro n V ⟨rfl,rfl⟩) | (go_at_call 205;fail));refine(qD _ _ _).mono ?_;refine dP ?_;intro j i c d e f l;clear i;go_wp2;refine aK (v:=aL #[am 0 aj 0 0,aw ak]) (by simp[aJ,results102,go_sem,c,d]) I ⟨?_,?_⟩
   ·exact b1.no _ _
   ·exact bB
  ·obtain⟨m,rfl⟩:∃m:J,u=(m:F):=⟨u.toNat,E⟩;rw[Be S x];have ZL:=oU x;have ZE:=ho o;refine l2 ?_;intro D;have ZV:=b8 o;have Z4:=ab (EY (aH g) m b k E);go_enter func102,ntmps102;go_wp2_with (first | (go_at_call 95;refine(ni _ _ _).mono ?_;rintro n V ⟨rfl,rfl⟩) | (go_at_call 205;fail));refine(qD _ _ _).mono ?_;rintro n j ⟨rfl,i⟩;have L:=aS i a.heap.size 0 (M b);have N:=aS i a.heap.size 1 (M k);refine fI ?_;intro c d e f;refine e5 ?_;intro l;have ZU:=fX j _ c;simp only at ZU;clear i;have K:aH g-1<aH g:=E;have ZK:((aH g-1:J):F)=(aH g:F)-1:=E;go_wp2_with (at_make;refine e6 I _ _ I (aH g) _ _ I I ZE ZE E ?_;intro ZG s v ZH;(have Z3:=(s.cellAt K).1);(have Z2:=(s.cellAt K).2.1);(have U:=ag v N);(have T:=ag v L));refine hF ?_;intro e f c d A;obtain⟨ZF,Z9,R,q⟩:=dC s K (k-b);rw[Z9];replace e:=eQ q c E e;replace f:=eQ q d E f;replace c:=cW q c E;replace d:=cW q d E;replace L:=cW q T E;replace N:=cW q U E;have W:=iD A A.size q l.size;clear Z9 q s Z3 Z2 A v T U;have X:m<aH g:=E;obtain⟨w,z,_⟩:=R.cellAt X;have ZI:0<=O ((bE (aH g) 0).set (aH g-1) (k-b)) m /\ O ((bE (aH g) 0).set (aH g-1) (k-b)) m<=k-b:=by
    rw[cO,eF];split<;>omega
   refine ei 10 ah ah (λ _ _ _ _ _ r=>r) ?_;refine dY ?_;repeat (first | go_big_quiet_step ((fail)) | quiet_step ((fail)))
   refine ko ?_;intro C p;refine h9 ?_;intro e f c d;replace z:=aB p w z;replace w:=ag p w;have s:=R.below p;have G:=au W p;clear p R W L N;go_wp2_with fail;obtain⟨ZS,Z6,Y,t⟩:=dC s X (O ((bE (aH g) 0).set (aH g-1) (k-b)) m+b);rw[Z6];replace e:=eQ t c E e;replace f:=eQ t d E f;replace c:=cW t c E;replace d:=cW t d E;have ZY:=iD G G.size t l.size;clear Z6 t s G w z;rw[Z4.o] at Y;obtain⟨ZP,ZQ,ZR,Z5,ZX⟩:=Y.ints;injection Z5 with Z1 Z0 ZZ
   subst Z1 Z0 ZZ;refine(hk _ _ _ _ _ _ ZX ZV.2 (λ ZT ZW=>z6 _ _ _ _ x ZT ZW)).mono ?_;refine k2 ?_;intro Z7 H Q P B y Z8;have ZJ:a.heap.size+1<ZS.heap.size:=b6 c;refine kY ?_;intro e f c d;have ZO:=au ZY y;go_wp2;refine aK (v:=aL #[ba #[M (bh g (iB (aH g) m b k)).size,aa H Q P],aw (bh g (iB (aH g) m b k)).ok]) (by simp[aJ,results102,go_sem,c,d]) I ⟨?_,?_⟩
   ·exact⟨_,I,((B.setBelow (by simp;omega) _).setBelow (by simp;omega) _).mono E⟩
   ·exact bB
def aO (b:aU (ac)) (a:J):ac:=b.getD a []
structure dj (w:af) (ao:aG) (n:J) (xss:aU (ac)):Prop where
 len:xss.length=n
 cap:n<=9223372036854775807
 cell:0<n->∃b off,ao=Z ⟨b,off,aj⟩ /\ b<w.heap.size /\ ∀k,k<n->∃a' n' c',w.cell? ⟨b,off+k,aj⟩=Z (aa a' n' c') /\ an w a' n' (aO xss k)
theorem dj.below {g w':af} {ao n xss} (a:dj g ao n xss) (b:ap g w'):dj w' ao n xss:=by
 refine⟨a.len,a.cap,λ p=>?_⟩;obtain⟨c,f,rfl,d,m⟩:=a.cell p;refine⟨c,f,I,cm d b.size,λ e o=>?_⟩;obtain⟨h,j,i,k,l⟩:=m e o;exact⟨h,j,i,(b.cell (p:=⟨c,f+e,aj⟩) d).trans k,l.below b⟩
theorem dj.at {h e:af} {ao n xss} (j:dj h ao n xss) (r:ap h e) {k:J} (u:k<n):
  ∃a f b d g,ao=Z ⟨a,f,aj⟩ /\ a<h.heap.size /\ a<e.heap.size /\ e.cell? ⟨a,f+k,aj⟩=Z (aa b d g) /\ an e b d (aO xss k):=by
 obtain⟨a,f,i,s,t⟩:=(j.below r).cell E;obtain⟨v,w,c,l,_⟩:=j.cell E;rw[i] at c;injection c with c
 injection c with m o
 subst m o;obtain⟨b,d,g,p,q⟩:=t k u;exact⟨a,f,b,d,g,i,l,s,p,q⟩
def ci (b:F) (a:ac):a8:=aI b a&&(O a 0==0)
def my (b:ac) (a:J):a8:=bi (-1000) 1000 (O b a)
def b7 (b:F) (a:ac):a8:=((a.length:F)==b)&&bq (my a) a.length
def ce (b:F) (d:ac) (a:aU (ac)):a8:=ci b d&&(bi 1 8 (a.length:F)&&bq (λ c=>b7 b (aO a c)) a.length)
theorem kp (d:F) (j:aG) (i n:J) (e:ac) (g:af) (b:an g j i e):
  aC 267 #[am d j i n] g (aw (ci d e)):=by
 cases a:aI d e
 ·go_enter func267,ntmps267;go_wp2_with fail;refine(cn _ _ _ _ _ _ (b.below (az g _))).mono ?_;rw[a];rintro o q ⟨rfl,c⟩;exact vo
 ·have m:0<i:=by
   exact wN
  obtain⟨s,v,rfl,t,p⟩:=b.cell m
  have x:=p 0 m
  rw[Nat.add_zero] at x
  have u:=b.cap
  go_enter func267,ntmps267
  go_wp2_with fail
  refine(cn _ _ _ _ _ _ (b.below (az g _))).mono ?_;rw[a];rintro o q ⟨rfl,c⟩
  obtain⟨k,l,f⟩:=dZ c
  replace x:=ag f x
  clear c
  go_wp2
  go_ret
  exact⟨ct (by simp[ci,a]),f⟩
theorem iA (d:F) (j:aG) (i n:J) (e:ac) (g:af) (b:an g j i e):
  aC 67 #[am d j i n] g (aw (ci d e)):=by
 cases a:aI d e
 ·go_enter func67,ntmps67;go_wp2_with fail;refine(dA _ _ _ _ _ _ (b.below (az g _))).mono ?_;rw[a];rintro o q ⟨rfl,c⟩;exact vo
 ·have m:0<i:=by
   exact wN
  obtain⟨s,v,rfl,t,p⟩:=b.cell m
  have x:=p 0 m
  rw[Nat.add_zero] at x
  have u:=b.cap
  go_enter func67,ntmps67
  go_wp2_with fail
  refine(dA _ _ _ _ _ _ (b.below (az g _))).mono ?_;rw[a];rintro o q ⟨rfl,c⟩
  obtain⟨k,l,f⟩:=dZ c
  replace x:=ag f x
  clear c
  go_wp2
  go_ret
  exact⟨ct (by simp[ci,a]),f⟩
theorem BJ (b:J->a8) (a:J):bq b (a+1)=(bq b a&&b a):=rfl
theorem FO (p:aG) (b B:J) (u:J->ay) (j:FuncId) (q:bg ay) (c:J->a8) (i:af) (K:b<=9223372036854775807)
  (L:∀(v:bg ay) (e:af),c9 prog (b0 j v) e=.ok (.enter j v) e)
  (r:∀a,a<b->∃d P,p=Z ⟨d,P,aj⟩ /\ d<i.heap.size /\ i.cell? ⟨d,P+a,aj⟩=Z (u a))
  (s:∀(a:J) (e:af),a<b->ap i e->aY prog j (#[u a]++q) e λ f A=>f=aV (aw (c a)) /\ ap e A):
  aY prog 341 #[aa p b B,.func (.func j) #[] q] i λ f e=>(∃t:F,f=aV (M t) /\ decide (0<=t)= !bq (λ a=> !c a) b) /\ ap i e:=by
 have o:=ab s;clear s;have n:=ab r;clear r;go_enter func341,ntmps341;go_wp2;go_loopw [5,8] (λ _ l wr=>∃a:J,a<=b /\ l=M a /\ bq (λ a=> !c a) a=ae /\ ap i wr) (λ _ l _=>b-(intOf l).toNat)
 case atStart=>exact⟨0,E,I,I,Below.refl _ _⟩
 case round =>
  exact wH
theorem EE (i:aG) (c u:J) (A:J->ay) (d:FuncId) (j:bg ay) (g:J->a8) (e:af) (w:c<=9223372036854775807)
  (x:∀(p:bg ay) (b:af),c9 prog (b0 d p) b=.ok (.enter d p) b)
  (l:∀a,a<c->∃f o,i=Z ⟨f,o,aj⟩ /\ f<e.heap.size /\ e.cell? ⟨f,o+a,aj⟩=Z (A a))
  (n:∀(a:J) (b:af),a<c->ap e b->aY prog d (#[A a]++j) b λ k q=>k=aV (aw (g a)) /\ ap b q):
  aC 283 #[aa i c u,.func (.func d) #[] j] e (aw (!bq (λ a=> !g a) c)):=by
 have t:=ab n;clear n;have r:=ab l;clear l;go_enter func283,ntmps283;go_wp2_with fail;refine(FO _ _ _ A _ _ g _ w x r.o t.o).mono ?_;rintro k z ⟨⟨y,rfl,m⟩,v⟩;have s:=ab m;clear m;go_wp2;go_ret;exact⟨ct (by rw[<- s.o]),v⟩
theorem Fp (p:aG) (b B:J) (u:J->ay) (j:FuncId) (q:bg ay) (c:J->a8) (i:af) (K:b<=9223372036854775807)
  (L:∀(v:bg ay) (e:af),c9 prog (b0 j v) e=.ok (.enter j v) e)
  (r:∀a,a<b->∃d P,p=Z ⟨d,P,aj⟩ /\ d<i.heap.size /\ i.cell? ⟨d,P+a,aj⟩=Z (u a))
  (s:∀(a:J) (e:af),a<b->ap i e->aY prog j (#[u a]++q) e λ f A=>f=aV (aw (c a)) /\ ap e A):
  aY prog 335 #[aa p b B,.func (.func j) #[] q] i λ f e=>(∃t:F,f=aV (M t) /\ decide (0<=t)= !bq (λ a=> !c a) b) /\ ap i e:=by
 have o:=ab s;clear s;have n:=ab r;clear r;go_enter func335,ntmps335;go_wp2;go_loopw [5,8] (λ _ l wr=>∃a:J,a<=b /\ l=M a /\ bq (λ a=> !c a) a=ae /\ ap i wr) (λ _ l _=>b-(intOf l).toNat)
 case atStart=>exact⟨0,E,I,I,Below.refl _ _⟩
 case round =>
  exact wH
theorem tj (i:aG) (c u:J) (A:J->ay) (d:FuncId) (j:bg ay) (g:J->a8) (e:af) (w:c<=9223372036854775807)
  (x:∀(p:bg ay) (b:af),c9 prog (b0 d p) b=.ok (.enter d p) b)
  (l:∀a,a<c->∃f o,i=Z ⟨f,o,aj⟩ /\ f<e.heap.size /\ e.cell? ⟨f,o+a,aj⟩=Z (A a))
  (n:∀(a:J) (b:af),a<c->ap e b->aY prog d (#[A a]++j) b λ k q=>k=aV (aw (g a)) /\ ap b q):
  aC 268 #[aa i c u,.func (.func d) #[] j] e (aw (!bq (λ a=> !g a) c)):=by
 have t:=ab n;clear n;have r:=ab l;clear l;go_enter func268,ntmps268;go_wp2_with fail;refine(Fp _ _ _ A _ _ g _ w x r.o t.o).mono ?_;rintro k z ⟨⟨y,rfl,m⟩,v⟩;have s:=ab m;clear m;go_wp2;go_ret;exact⟨ct (by rw[<- s.o]),v⟩
theorem Gd (a:F) (e:af):
  aC 284 #[M a] e (aw (!bi (-1000) 1000 a)):=by
 cases b:bi (-1000) 1000 a
 ·rcases j0.1 b with c | c
  ·exact rZ
  ·have d:¬a< -1000:=E;exact rZ
 ·have c:=bM.1 b;have d:¬a< -1000:=E;have f:¬1000<a:=E;exact rZ
theorem FP (c:bg ay) (a:af):c9 prog (b0 284 c) a=.ok (.enter 284 c) a:=by
 have g:(Tryz.f284.name== "runtime.NumGoroutine")=ak:=ah;have b:Tryz.f284.body.isNone=ak:=ah;have d:¬Tryz.f284.name= "runtime.NumGoroutine" :=by simpa using g
 have e:¬Tryz.f284.body=aj:=by intro f;rw[f] at b;simp at b
 simp only[b0,eC,run_program,ex,func284,cR,eB,aF d,aF e,ey]
theorem oB (d:F) (j:ay) (B:aG) (a m:J) (b:ac) (e:af) (i:an e B a b):
  aC 170 #[ba #[M d,j],aa B a m] e (aw (b7 d b)):=by
 have w:=i.cap;have l:=ab i.len;cases f:((a:F)==d)
 ·have k:¬(a:F)=d:=by simpa using f
  have g:U (b7 d b=ak):=by show b7 d b=ak;unfold b7;rw[l.o,f];rfl
  rw[g.o];go_enter func170,ntmps170;go_wp2;go_ret;exact⟨ct ar,az e _⟩
 ·have k:(a:F)=d:=by simpa using f
  have g:U (b7 d b=bq (my b) a):=by show b7 d b=_;unfold b7;rw[l.o,f];rfl
  rw[g.o];subst k;have x:=i.below (az e (al #[M a,j] 29));go_enter func170,ntmps170;go_wp2_with fail;refine(EE B a m (λ c=>M (O b c)) 284 #[] (λ c=> !my b c) _ w FP ?_ ?_).mono ?_
  ·intro c p;obtain⟨s,y,n,u,v⟩:=x.cell E;exact⟨s,y,n,u,v c p⟩
  ·intro c q p z;exact Gd (O b c) q
  rintro n A ⟨rfl,o⟩;have t:=(az e (al #[M a,j] 29)).trans (o.mono ar);have r:U (bq (λ c=> !!my b c) a=bq (my b) a):=by show bq _ a=_;simp
  clear o;go_wp2;go_ret;exact⟨ct (by rw[<- r.o]),t⟩
theorem Hf (b:J) (e:F) (o:ay) (c:aG) (d g:J) (f:ac) (a:af) (j:an a c d f) (l: a.cell? (ad b 0)=Z (M e)) (m: a.cell? (ad b 1)=Z o):
  aC 269 #[aa c d g,br b] a (aw (!b7 e f)):=by
 go_enter func269,ntmps269;go_wp2_with fail;refine(oB e o c d g f _ j).mono ?_;rintro k n ⟨rfl,i⟩;go_wp2;go_ret;exact⟨I,i⟩
theorem Ge (c:bg ay) (a:af):c9 prog (b0 269 c) a=.ok (.enter 269 c) a:=by
 have g:(Tryz.f269.name== "runtime.NumGoroutine")=ak:=ah;have b:Tryz.f269.body.isNone=ak:=ah;have d:¬Tryz.f269.name= "runtime.NumGoroutine" :=by simpa using g
 have e:¬Tryz.f269.body=aj:=by intro f;rw[f] at b;simp at b
 simp only[b0,eC,run_program,ex,func269,cR,eB,aF d,aF e,ey]
theorem dj.vals {c:af} {ao n xss} (l:dj c ao n xss):∃j:J->ay,∀a,a<n->(∃b d,ao=Z ⟨b,d,aj⟩ /\ b<c.heap.size /\ c.cell? ⟨b,d+a,aj⟩=Z (j a)) /\ ∃e f g,j a=aa e f g /\ an c e f (aO xss a):=by
 by_cases m:0<n
 ·obtain⟨b,d,k,p,q⟩:=l.cell m;refine⟨λ a=>(c.cell? ⟨b,d+a,aj⟩).getD undef,λ a i=>?_⟩;obtain⟨e,f,g,h,o⟩:=q a i;exact⟨⟨b,d,k,p,by show c.cell? _=Z ((c.cell? ⟨b,d+a,aj⟩).getD undef);rw[h];rfl⟩,e,f,g,by show (c.cell? ⟨b,d+a,aj⟩).getD undef=_;rw[h];rfl,o⟩
 ·exact⟨λ _=>undef,λ a i=>E⟩
theorem qi (a:F) (t m:aG) (z H d u:J) (f:ac) (b:aU (ac)) (e:af) (q:an e t z f) (p:dj e m d b):
  aC 153 #[am a t z H,aa m d u] e (aw (ce a f b)):=by
 have N:=p.cap;have r:=ab p.len;cases j:ci a f
 ·have g:U (ce a f b=ak):=by show ce a f b=ak;unfold ce;rw[j];rfl
  rw[g.o];exact sk
 ·cases k:bi 1 8 (d:F)
  ·have g:U (ce a f b=ak):=by show ce a f b=ak;unfold ce;rw[r.o,k];simp
   rw[g.o];rcases j0.1 k with K | K
   ·exact sk
   ·have L:¬(d:F)<1:=E;exact sk
  ·have T:=bM.1 k;have L:¬(8:F)<d:=E;have g:U (ce a f b=bq (λ c=>b7 a (aO b c)) d):=by show ce a f b=_;unfold ce;rw[j,r.o,k];rfl
   rw[g.o];go_enter func153,ntmps153;go_wp2_with fail;refine pU ?_;rw[j];rintro i R ⟨rfl,W⟩;obtain⟨v,w,l⟩:=dZ W;have P:=p.below l;clear W;obtain⟨Q,y⟩:=P.vals;have s:=ab y;clear y;go_wp2_with fail;refine(tj m d u Q 269 #[br e.heap.size] (λ c=> !b7 a (aO b c)) _ N Ge (λ c o=>(s.o c o).1) ?_).mono ?_
   ·intro c D o n;obtain⟨_,A,C,B,i,O⟩:=s.o c o;rw[i];exact Hf _ a _ A C B _ D (O.below n) (ag n v) (ag n w)
   rintro i V ⟨rfl,x⟩;have M:=au l x;have G:U (bq (λ c=> !!b7 a (aO b c)) d=bq (λ c=>b7 a (aO b c)) d):=by show bq _ d=_;simp
   clear x;go_wp2;go_ret;exact⟨ct (by rw[<- G.o]),M⟩
theorem nf (b:F) (p r:aG) (q s f C:J) (g d:ac) (m:af) (N:an m p q g) (l:an m r f d):
  aC 105 #[am b p q s,aa r f C] m (aw (aI b g&&b7 b d)):=by
 have S:=l.cap;have o:=ab l.len;have j:=az m (al #[M b,aa p q s] 29);cases i:bq (my d) d.length
 ·obtain⟨x,L,u⟩:=ii i;have n:U ((aI b g&&b7 b d)=ak):=by show (aI b g&&b7 b d)=ak;unfold b7;rw[i];simp
  rw[n.o];rw[o.o] at L;have A:=ab u;clear u i;go_enter func105,ntmps105;go_wp2;go_loop [5] (λ W=>∃a:J,a<=x /\ W=M a) (λ W=>f-(intOf W).toNat)
  case atStart=>exact⟨0,E,I⟩
  case round =>
   obtain⟨a,K,rfl⟩:=hrel;have k:a<f:=E;obtain⟨B,P,rfl,G,y,H⟩:=l.at j k;cases w:bi (-1000) 1000 (O d a)
   ·go_wp2_with (first | (go_at_call 113;refine(fM _ _ _ _).mono ?_;rintro c e ⟨rfl,rfl⟩));go_ret;exact⟨I,j⟩
   ·have T:a≠x:=by rintro rfl;have:=A.o;unfold my at this;rw[w] at this;cases this
    exact pz
 ·have z:=ab ((cp _ _).1 i);have n:U ((aI b g&&b7 b d)=(aI b g&&((f:F)==b))):=by show (aI b g&&b7 b d)=_;unfold b7;rw[i,o.o];simp
  rw[n.o];clear i;go_enter func105,ntmps105;go_wp2;go_loop [5] (λ W=>∃a:J,a<=f /\ W=M a) (λ W=>f-(intOf W).toNat)
  case atStart=>exact⟨0,E,I⟩
  case round =>
   obtain⟨a,K,rfl⟩:=hrel;by_cases k:a<f
   ·obtain⟨B,P,rfl,G,y,H⟩:=l.at j k;have w:bi (-1000) 1000 (O d a)=ae:=z.o a (by rw[o.o];exact k);exact pz
   ·cases v:aI b g;all_goals
     go_wp2_with fail;refine(dA _ _ _ _ _ _ (N.below j)).mono ?_;rw[v];rintro c V ⟨rfl,t⟩;obtain⟨Q,R,D⟩:=dZ t;clear t;go_wp2;go_ret;exact⟨ct (by simp[v]),D⟩
theorem na (b:F) (i H:aG) (l m d Z8:J) (f:ac) (c:aU (ac)) (e:af) (Q:an e i l f) (z:dj e H d c):
  aC 112 #[am b i l m,aa H d Z8] e (aw (ce b f c)):=by
 have ZV:=z.cap;have p:=ab z.len;have K:=az e (al #[M b,aa i l m] 29);have O:(e.alloc (al #[M b,aa i l m] 29)).cell? (ad e.heap.size 0)=Z (M b):=ar;have P:(e.alloc (al #[M b,aa i l m] 29)).cell? (ad e.heap.size 1)=Z (aa i l m):=ar;cases v:bq (λ a=>aI b f&&b7 b (aO c a)) c.length
 ·obtain⟨R,N,w⟩:=ii v;have B:U (ce b f c=ak):=by
   show ce b f c=ak;unfold ce ci;cases Z2:aI b f
   ·rfl
   ·rw[Z2] at w;have:bq (λ a=>b7 b (aO c a)) c.length=ak:=jn N (by simpa using w);rw[this];simp
  rw[B.o];rw[p.o] at N;have Y:=ab w;clear w v;go_enter func112,ntmps112;go_wp2;go_loopw [5] (λ o wr=>∃a:J,a<=R /\ o=M a /\ Below (e.alloc (al #[M b,aa i l m] 29)).heap.size (e.alloc (al #[M b,aa i l m] 29)) wr) (λ o _=>d-(intOf o).toNat)
  case atStart=>exact⟨0,E,I,Below.refl _ _⟩
  case round =>
   obtain⟨a,r,rfl,j⟩:=hrel;have x:a<d:=E;have n:=K.trans (j.mono ar);obtain⟨Z9,ZZ,S,X,T,rfl,Z5,V,Z4,D⟩:=z.at n x;have Z1:=ag j O;have Z0:=ag j P;have s:=Q.below n;have W:(0:F)<=(a:F):=E;have Z3:(a:F)<(d:F):=E;cases y:(aI b f&&b7 b (aO c a))
   ·go_wp2;refine ei 5 ah ah (λ _ _ _ _ _ C=>C) ?_;refine dY ?_;repeat (first | go_big_quiet_step ((fail)) | quiet_step ((fail)))
    refine et ?_;intro L k;have Z6:=au n k;go_wp2_with fail;refine(nf _ _ _ _ _ _ _ _ _ _ (s.below k) (D.below k)).mono ?_;rw[y];rintro t G ⟨rfl,g⟩;have q:=au Z6 g;clear k g;go_wp2;go_ret;exact⟨I,q⟩
   ·have ZU:a≠R:=by rintro rfl;have:=Y.o;rw[y] at this;cases this
    exact vr
 ·have A:=ab ((cp _ _).1 v);have B:U (ce b f c=(ci b f&&bi 1 8 (d:F))):=by
   show ce b f c=_;unfold ce;rw[p.o];by_cases Z7:d=0
   ·subst Z7;simp[bi]
   ·have r:=A.o 0 (by rw[p.o];omega);simp only[b9] at r;have:bq (λ a=>b7 b (aO c a)) d=ae:=(cp _ _).2 λ a r=>by
     have:=A.o a (by rw[p.o];exact r);simp only[b9] at this;exact this.2
    rw[this];simp
  rw[B.o];clear v;go_enter func112,ntmps112;go_wp2;go_loopw [5] (λ o wr=>∃a:J,a<=d /\ o=M a /\ Below (e.alloc (al #[M b,aa i l m] 29)).heap.size (e.alloc (al #[M b,aa i l m] 29)) wr) (λ o _=>d-(intOf o).toNat)
  case atStart=>exact⟨0,E,I,Below.refl _ _⟩
  case round =>
   obtain⟨a,r,rfl,j⟩:=hrel;have n:=K.trans (j.mono ar);have Z1:=ag j O;have Z0:=ag j P;have s:=Q.below n;by_cases x:a<d
   ·obtain⟨Z9,ZZ,S,X,T,rfl,Z5,V,Z4,D⟩:=z.at n x;have W:(0:F)<=(a:F):=E;have Z3:(a:F)<(d:F):=E;have y:(aI b f&&b7 b (aO c a))=ae:=A.o a (by rw[p.o];exact x);exact vr
   ·clear j;cases u:ci b f
    ·go_wp2_with fail;refine(iA _ _ _ _ _ _ s).mono ?_;rw[u];rintro t G ⟨rfl,g⟩;have q:=au n g;clear g;go_wp2;go_ret;exact⟨ct (by simp[u]),q⟩
    ·go_wp2_with fail;refine(iA _ _ _ _ _ _ s).mono ?_;rw[u];rintro t G ⟨rfl,g⟩;have q:=au n g;clear g;go_wp2_with (first | (go_at_call 113;refine(fM _ _ _ _).mono ?_;rintro t ZW ⟨rfl,rfl⟩));go_ret;exact⟨ct (by simp[u]),q⟩
end Go.Proofs.YtkjnhlpccgjfhaaGreatDoor
