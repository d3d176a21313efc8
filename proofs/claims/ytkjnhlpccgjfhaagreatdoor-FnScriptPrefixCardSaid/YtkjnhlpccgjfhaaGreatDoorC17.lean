/- A part of the proof: lemmas (my texts, shortened by a program of mine). -/
import Derived.Deep.LoopGhost
import Derived.Test.YtkjnhlpccgjfhaaGreatDoorC14
import Derived.Test.YtkjnhlpccgjfhaaGreatDoorC15
set_option linter.all false
set_option maxRecDepth 100000
set_option maxHeartbeats 4000000
namespace Go.Proofs.YtkjnhlpccgjfhaaGreatDoor
open Go.RowKit
open Go.Proofs.Tryz
open Bool renaming false->ak,true->ae
open Go renaming Calls->aY,Oper->bD,Value->ay,World->af,bodyPost_ret->aK,results->aJ,wpQuiet_nil->dn
open Go.Act renaming put->aT
open Go.Ending renaming returned->aV
open Go.IntWalk renaming i64_in->bV
open Go.Obj renaming cells->al
open Go.Region renaming Mode->hY
open Go.Value renaming agg->ba,bool->aw,slice->aa,tuple->aL
open Go.World renaming block_lt_of_cell?->fX,drew->dH
open Int renaming le_refl->fE
open Nat renaming le_refl->bL,lt_of_lt_of_le->cm,lt_succ_self->gB
open Option renaming none->aj,some->Z
open Or renaming inl->bj,inr->aP
open _root_ renaming Array->bg,Bool->a8,Int->F,Nat->J,absurd->bC,if_neg->aF,if_pos->a7,rfl->I
variable {p q:Prop}
section
variable {P : Program} {md : hY} {ops : bg bD} {Q : Exit → Act → af → Prop} {S T : af → Prop} {p : J}
theorem Ai {S' T':af->Prop} (f:∀a,S' a->S a) (g:∀a,T' a->T a):∀(b:J) (h:bg a8) (e:Act) (a:af),de P md ops Q S' T' p b h e a->de P md ops Q S T p b h e a
 | 0,_,_,_,c=>c
 | b+1,_,_,_,c=>⟨c.1,λ m l=>wpOp_mono (λ i j d=>⟨⟨f _ d.1.1,λ k=>g _ (d.1.2 k)⟩,Ai f g b _ i j d.2⟩) (c.2 m l)⟩
end
theorem un {a b:F} (c:1<=a) (d:a<=1000000) (e:1<=b) (f:b<=1000000):1<=a*b /\ a*b<=1000000000000:=by
 have g:=Int.mul_le_mul c e E E;have h:=Int.mul_le_mul d f E E;omega
theorem lw {a b:F} (c:0<=a) (d:a<=1000000) (e:0<=b) (f:b<=1000000):0<=a*b /\ a*b<=1000000000000:=by
 have g:=Int.mul_nonneg c e;have h:=Int.mul_le_mul d f E E;omega
def gR (e:F) (a:ac) (f:F) (b:ac):bb:=if cJ e a f b then bv (O (bN (λ c d=>c&&&d) a b a.length b.length a.length) 0) (aW a*aW b) else bb.no
theorem By {a:F} {c:ac} {b:F} {d:ac} (e:cJ a c b d=ak):gR a c b d=bb.no:=by simp[gR,e]
def ih (f g:ac) (b c:F) (d:J):F:=bx (λ a e=>e+max 0 (O f a*c-O g a*b)) 0 d
theorem Hc {b c:ac} {X Y:F} {n:J} (h:0<=X) (i:X<=1000000) (j:0<=Y) (k:Y<=1000000) (d:∀a,a<n->0<=O b a /\ O b a<=1000000) (e:∀a,a<n->0<=O c a /\ O c a<=1000000):∀a,a<=n->0<=ih b c X Y a /\ ih b c X Y a<=1000000000000*(a:F):=by
 intro a;induction a with
 | zero=>intro _;exact⟨fE _,by simp[ih,bx]⟩
 | succ a g =>
  intro p
  have l:=g E
  have m:=lw (d a E).1 (d a E).2 j k
  have o:=lw (e a E).1 (e a E).2 h i
  have f:ih b c X Y (a+1)=ih b c X Y a+max 0 (O b a*Y-O c a*X):=rfl
  rw[f];push_cast;omega
def hu (c:F) (a:ac) (d:F) (b:ac):bb:=if cJ c a d b then bv (ih a b (aW a) (aW b) a.length) (aW a*aW b) else bb.no
theorem Bz {a:F} {c:ac} {b:F} {d:ac} (e:cJ a c b d=ak):hu a c b d=bb.no:=by simp[hu,e]
def g4 (e f:ac) (c d:F) (a b:J):a8:= !decide (a9 (bm (bU b)) f a*c<a9 (bm (bU b)) e a*d)
def iG (c:F) (a:ac) (d:F) (b:ac):a8:=cJ c a d b&&bq (g4 a b (aW a) (aW b) a.length) a.length
theorem FB (g q:F) (s t:aG) (m y b z:J) (n o:ac) (a:af) (Z8:an a s m n) (Z6:an a t b o):
  aC 239 #[am g s m y,am q t b z] a (aL #[ba #[M (gR g n q o).num,M (gR g n q o).den],aw (gR g n q o).ok]):=by
 have X:Below a.heap.size a (((a.alloc (al #[M g,aa s m y] 29)).alloc (al #[M q,aa t b z] 29)).alloc (al #[M 0,M 0] 55)):=aD;cases B:cJ g n q o
 ·have ZN:=ab (By B);rw[ZN.o];go_enter func239,ntmps239;go_wp2_with fail;refine hj ?_;refine iV ?_;intro u c d e f l;go_wp2;refine aK (v:=bz 0 0 ak) (by simp[aJ,results239,go_sem,c,d]) I ⟨?_,?_⟩
  ·rfl
  ·exact bB
 ·obtain⟨A,ZA,Zk,Y⟩:=fN B;clear Zk;refine ib ?_;intro Q Z9 T;subst T;obtain⟨_,_,Zp,L,Zx,Zw,_⟩:=cv A;obtain⟨_,_,_,R,Zv,Zu,_⟩:=cv ZA;refine iX ?_;intro ZZ Z1 K N P;obtain⟨v,ZY⟩:∃v,U (aW n=v):=⟨_,I⟩;obtain⟨S,ZX⟩:∃S,U (aW o=S):=⟨_,I⟩;rw[ZY.o] at Zx Zw;rw[ZX.o] at Zv Zu;have Y5:=un Zx Zw Zv Zu;refine og ?_;intro Z4;have Zy:=jY (λ w x=>w&&&x) n o b b b K N.o P.o b aZ 0;refine zp ?_;intro Z2;obtain⟨ZM,ZH⟩:∃Zf,bN (λ w x=>w&&&x) n o b b b=Zf:=⟨_,I⟩;have ZN:U (gR g n q o=bv (O ZM 0) (v*S)):=by rw[U];unfold gR;rw[B,Q.o,Z9.o,ZY.o,ZX.o,ZH];rfl
  rw[ZN.o];rw[ZH] at Z4 Zy Z2;obtain⟨ZL,ZR⟩:∃Zg,bv (O ZM 0) (v*S)=Zg:=⟨_,I⟩;rw[ZR];obtain⟨ZD,ZG⟩:∃ZD,O ZM 0=ZD:=⟨_,I⟩;have Zs:=ab ZG;rw[ZG] at Zy ZR;have Y6:IntKind.i64.wrap (v*S)=v*S:=by rw[bV];omega
  have Y9:0<b:=E;refine yz ?_;intro ZW ZV;have Zt:U (∀r,aC 156 #[M ZD,M (v*S)] r (bz ZL.num ZL.den ZL.ok)):= λ r=>by rw[<- ZR];exact mc _ _ r E E E E E
  clear Y L R Zp A ZA ZH ZG ZR;go_enter func239,ntmps239;go_wp2_with fail;refine hj ?_;refine iW ?_;intro u i c d e f D G C H l;refine k8 ?_;intro Z7 Z5;refine m6 ?_;intro ZP;clear i X;go_wp2_with fail;refine gJ (S:= λ _=>True) (T:= λ r=>ap u r) (p:=13) ah ?_;refine lY ?_;have W:=bI u;refine iZ (i:=0) (v:=?_) I ah ah ah (λ _ _ _ Y0=>Y0) aX ah ah (Or.inl ⟨a6,λ r Z3=>?_⟩) ⟨trivial,W⟩ ?_;rotate_left
  ·have ZO:=ag Z3.2 D;have ZF:=ag Z3.2 G;go_simp;first | done | rfl
  simp only[aT];refine iZ (i:=1) (v:=?_) I ah ah ah (λ _ _ _ Y0=>Y0) aX ah ah (Or.inl ⟨a6,λ r Z3=>?_⟩) ⟨trivial,W⟩ ?_;rotate_left
  ·have ZO:=ag Z3.2 C;have ZF:=ag Z3.2 H;go_simp;first | done | rfl
  simp only[aT];refine iZ (i:=5) (v:=?_) I ah ah ah (λ _ _ _ Y0=>Y0) aX ah ah (Or.inl ⟨a6,λ r Z3=>?_⟩) ⟨trivial,W⟩ ?_;rotate_left
  ·have ZO:=ag Z3.2 D;have ZF:=ag Z3.2 G;go_simp;first | done | rfl
  simp only[aT];refine iZ (i:=7) (v:=?_) I ah ah ah (λ _ _ _ Y0=>Y0) aX ah ah (Or.inl ⟨a6,λ r Z3=>?_⟩) ⟨trivial,W⟩ ?_;rotate_left
  ·have ZO:=ag Z3.2 C;have ZF:=ag Z3.2 H;go_simp;first | done | rfl
  simp only[aT];refine e7 2 I ah a6 (λ k j=>?_);go_simp;refine(Z2.o _ (Z7.below W) (Z5.below W)).mono ?_;rintro V ZE ⟨⟨Y4,rfl,Zz⟩,Zo⟩;obtain⟨Ze,Zd,ZB,Y8,Y7,Zj⟩:=Zz.form (by rw[Z4.o];omega);rw[Z4.o] at ZB Zj;subst ZB;obtain⟨ZC,_,_⟩:=Zz.cellAt (show 0<b from E);rw[Zs.o] at ZC;go_simp;have ZS:=au W Zo;refine j _ _ trivial (λ _=>ZS) ?_;clear j k;have ZT:=ZS;clear W;have W:=ZS;clear ZS;refine Ai (S':= λ _=>True) (T':= λ r=>ap ZE r) (λ _ Y0=>Y0) (λ r Y0=>au ZT Y0) _ _ _ _ ?_;clear W;have W:=Below.refl ZE.heap.size ZE;have Zi:=Z7.below ZT;have Zh:=Z5.below ZT;refine iZ (i:=3) (v:=?_) I ah ah ah (λ _ _ _ Y0=>Y0) aX ah ah (Or.inl ⟨a6,λ r Z3=>?_⟩) ⟨trivial,W⟩ ?_;rotate_left
  ·go_simp;first | done | rfl
  simp only[aT];refine iZ (i:=4) (v:=?_) I ah ah ah (λ _ _ _ Y0=>Y0) aX ah ah (Or.inl ⟨a6,λ r Z3=>?_⟩) ⟨trivial,W⟩ ?_;rotate_left
  ·have ZO:=ag Z3.2 ZC;go_simp;first | done | rfl
  simp only[aT];refine e7 6 I ah a6 (λ k j=>?_);go_simp;refine(ZW.o _ (Zi.below W)).mono ?_;rintro V Y3 ⟨rfl,Zn⟩;go_simp;have ZK:=au W Zn;refine j _ _ trivial (λ _=>ZK) ?_;clear j k W;have W:=ZK;clear ZK;refine oi ?_;intro k j;go_simp;refine(ZV.o _ (Zh.below W)).mono ?_;rintro V Y2 ⟨rfl,Zm⟩;go_simp;have ZJ:=au W Zm;refine j _ _ trivial (λ _=>ZJ) ?_;clear j k W;have W:=ZJ;clear ZJ;refine iZ (i:=9) (v:=M (v*S)) I ah ah ah (λ _ _ _ Y0=>Y0) aX ah ah (Or.inl ⟨a6,λ r Z3=>?_⟩) ⟨trivial,W⟩ ?_
  ·go_simp;first | done | rfl
  simp only[aT];refine m0 ?_;intro k j;go_simp;refine(Zt.o _).mono ?_;rintro V Y1 ⟨rfl,Zl⟩;go_simp;have ZI:=au W Zl;refine j _ _ trivial (λ _=>ZI) ?_;clear j k W;have W:=ZI;clear ZI;refine iZ (i:=11) (v:=?_) I ah ah ah (λ _ _ _ Y0=>Y0) aX ah ah (Or.inl ⟨a6,λ r Z3=>?_⟩) ⟨trivial,W⟩ ?_;rotate_left
  ·go_simp;first | done | rfl
  simp only[aT];refine iZ (i:=12) (v:=?_) I ah ah ah (λ _ _ _ Y0=>Y0) aX ah ah (Or.inl ⟨a6,λ r Z3=>?_⟩) ⟨trivial,W⟩ ?_;rotate_left
  ·go_simp;first | done | rfl
  simp only[aT];have ZU:=au ZT W;have Zc:=aB ZU c e;have Zb:=aB ZU d f;have Zr:=ag ZU c;have Zq:=ag ZU d;have Za:=au l ZU;refine m7 ?_;intro k j;refine j _ _ trivial (λ Y0=>bC Y0 aX) ?_;clear j k;refine mT ?_;intro k j;go_simp;refine j _ _ trivial (λ Y0=>bC Y0 aX) ?_;refine eh ?_;clear j k;go_wp2;refine aK (by simp[aJ,results239,go_sem,Zr,Zq];first | done | rfl) I ⟨I,?_⟩;exact bB
theorem FC (g q:F) (s t:aG) (m y b z:J) (n o:ac) (a:af) (Z8:an a s m n) (Z6:an a t b o):
  aC 240 #[am g s m y,am q t b z] a (aL #[ba #[M (hu g n q o).num,M (hu g n q o).den],aw (hu g n q o).ok]):=by
 have X:Below a.heap.size a (((a.alloc (al #[M g,aa s m y] 29)).alloc (al #[M q,aa t b z] 29)).alloc (al #[M 0,M 0] 55)):=aD;cases B:cJ g n q o
 ·have W:=ab (Bz B);rw[W.o];go_enter func240,ntmps240;go_wp2_with fail;refine hj ?_;refine iV ?_;intro u c d e f l;go_wp2;refine aK (v:=bz 0 0 ak) (by simp[aJ,results240,go_sem,c,d]) I ⟨?_,?_⟩
  ·rfl
  ·exact bB
 ·obtain⟨A,Zs,Zo,Y⟩:=fN B;clear Zo;refine ib ?_;intro Q Z9 T;subst T;obtain⟨_,_,Zq,L,ZU,Z4,_⟩:=cv A;obtain⟨_,_,_,R,ZT,Z3,_⟩:=cv Zs;refine iX ?_;intro ZZ Z1 K N P;refine yN ?_;intro v S j ZY ZX ZU Z4 ZT Z3 ZC ZN ZO W Y3 ZD;refine yz ?_;intro ZW ZV;have ZE:U (∀r,aC 156 #[M (ih n o v S b),M (v*S)] r (bz j.num j.den j.ok)):= λ r=>by rw[<- Y3];exact mc _ _ r E E E E E
  clear Y L R Zq A Zs Y3 ZO;go_enter func240,ntmps240;go_wp2_with fail;refine hj ?_;refine iW ?_;intro u i c d e f D G C H l;refine k8 ?_;intro Z7 Z5;refine m6 ?_;intro ZP;clear i X;go_wp2;go_loopw [6,7,16] (λ Zn _ ZF wr=>∃p:J,p<=b /\ ZF=M p /\ Zn=M (ih n o v S p) /\ ap u wr) (λ _ _ ZF _=>b-(intOf ZF).toNat)
  case atStart=>exact⟨0,E,I,I,Below.refl _ _⟩
  case round =>
   obtain⟨p,Z0,rfl,rfl,w⟩:=hrel;obtain⟨ZK,rfl⟩:∃Zi:af,Zi=wr:=⟨_,I⟩;replace D:=ag w D;replace G:=ag w G;replace C:=ag w C;replace H:=ag w H;refine ot ?_;intro e f c d;have k:=Z7.below w;have ZR:=Z5.below w;by_cases Z2:p<b
   ·obtain⟨Zg,Y9,rfl,Zd,Zm,Zb⟩:=k.at bA Z2;obtain⟨Zf,Y8,rfl,Zc,Zl,Za⟩:=ZR.at bA Z2;refine y8 ?_;intro ZH ZG ZM ZL ZB Zy ZA Zz ZJ ZI ZS Zu Zt;go_wp2;refine cC ?_;repeat (first | go_big_quiet_step ((go_at_call 157;first | (with_reducible exact aQ (ZW.o _ (k.below (aM _ _)))) | (with_reducible exact aQ (ZV.o _ (ZR.below (aM _ _)))))) | quiet_step ((go_at_call 157;first | (with_reducible exact aQ (ZW.o _ (k.below (aM _ _)))) | (with_reducible exact aQ (ZV.o _ (ZR.below (aM _ _)))))))
    exact wG
   ·obtain rfl:p=b:=E;have Zp:=l.trans (w.mono l.size);go_wp2;refine ei 9 ah ah (λ _ _ _ _ _ Zr=>Zr) ?_;refine dY ?_;repeat (first | go_big_quiet_step ((first | (go_at_call 157;first | (with_reducible exact aQ (ZW.o _ (k.below (aM _ _)))) | (with_reducible exact aQ (ZV.o _ (ZR.below (aM _ _))))) | (go_at_call 156;(with_reducible exact aQ (ZE.o _))))) | quiet_step ((first | (go_at_call 157;first | (with_reducible exact aQ (ZW.o _ (k.below (aM _ _)))) | (with_reducible exact aQ (ZV.o _ (ZR.below (aM _ _))))) | (go_at_call 156;(with_reducible exact aQ (ZE.o _))))))
    refine dn ?_;refine dg ?_;intro Y7 x;refine l3 ?_;intro e f c d;have Ze:=au Zp x;clear x;go_wp2;refine aK (v:=bz j.num j.den j.ok) (by simp[aJ,results240,go_sem,c,d,e,f]) I ⟨?_,?_⟩
    ·rfl
    ·exact aD
theorem E9 (t u:F) (k l:aG) (c q r:J) (d e:ac) (g i:F) (j:af) (ZG:an j k c d) (ZE:an j l c e) (N:c<=16) (ZS:∀b,b<c->0<=O d b /\ O d b<=1000000) (ZR:∀b,b<c->0<=O e b /\ O e b<=1000000)
  (ZZ:aW d=g) (ZY:aW e=i) (Zu:1<=g) (Zz:g<=1000000) (Zt:1<=i) (Zy:i<=1000000)
  (ZU:∀f,0<=a9 (bm (bU f)) d c /\ a9 (bm (bU f)) d c<=1000000) (ZT:∀f,0<=a9 (bm (bU f)) e c /\ a9 (bm (bU f)) e c<=1000000):
  aC 313 #[am t k c q,am u l c r] j (aw (bq (g4 d e g i c) c)):=by
 have Z1:=ab ZS;have Z0:=ab ZR;have ZN:=ab ZZ;have ZM:=ab ZY;have ZP:=ab ZU;have ZO:=ab ZT;clear ZS ZR ZZ ZY ZU ZT;have z:U (∀a,an a k c d->aC 157 #[am t k c q] a (M g)):= λ a o=>by rw[<- ZN.o];exact gi _ _ _ _ d a o (λ b L=>by have:=Z1.o b L;omega) N
 have A:U (∀a,an a l c e->aC 157 #[am u l c r] a (M i)):= λ a o=>by rw[<- ZM.o];exact gi _ _ _ _ e a o (λ b L=>by have:=Z0.o b L;omega) N
 have p:Below j.heap.size j ((j.alloc (al #[M t,aa k c q] 29)).alloc (al #[M u,aa l c r] 29)):=aD;obtain⟨y,s⟩:∃ZL,((j.alloc (al #[M t,aa k c q] 29)).alloc (al #[M u,aa l c r] 29))=ZL:=⟨_,I⟩;have D: y.cell? (ad j.heap.size 0)=Z (M t):=by rw[<- s];simp
 have G: y.cell? (ad j.heap.size 1)=Z (aa k c q):=by rw[<- s];simp
 have C: y.cell? (ad (j.heap.size+1) 0)=Z (M u):=by rw[<- s];simp
 have H: y.cell? (ad (j.heap.size+1) 1)=Z (aa l c r):=by rw[<- s];simp
 rw[s] at p;have ZF:=ZG.below p;have ZD:=ZE.below p;go_enter func313,ntmps313;go_wp2;clear s;go_loopw [5,9] (λ _ Z9 wr=>∃b:J,b<=c /\ Z9=M b /\ (∀f,f<b->g4 d e g i c f=ae) /\ ap y wr) (λ _ Z9 _=>c-(intOf Z9).toNat)
 case atStart=>exact⟨0,E,I,λ f ZX=>E,Below.refl _ _⟩
 case round =>
  obtain⟨b,L,rfl,ZW,w⟩:=hrel;obtain⟨ZK,rfl⟩:∃Zs:af,Zs=wr:=⟨_,I⟩;replace D:=ag w D;replace G:=ag w G;replace C:=ag w C;replace H:=ag w H;have m:=ZF.below w;have n:=ZD.below w;have Z3:=ab ZW;clear ZW;by_cases ZH:b<c
  ·have Z5:=ZP.o b;have Z4:=ZO.o b;obtain⟨v,V⟩:∃v,U (a9 (bm (bU b)) d c=v):=⟨_,I⟩;obtain⟨x,W⟩:∃x,U (a9 (bm (bU b)) e c=x):=⟨_,I⟩;rw[V.o] at Z5;rw[W.o] at Z4;have B:U (∀a,an a k c d->aC 253 #[am t k c q,M b] a (M v)):= λ a o=>by rw[<- V.o];exact nh _ b _ _ _ d a o E N Z1.o
   have K:U (∀a,an a l c e->aC 253 #[am u l c r,M b] a (M x)):= λ a o=>by rw[<- W.o];exact nh _ b _ _ _ e a o E N Z0.o
   have ZC:=lw Z4.1 Z4.2 E Zz;have ZB:=lw Z5.1 Z5.2 E Zy;obtain⟨Z7,R⟩:∃Z8,x*g=Z8:=⟨_,I⟩;obtain⟨Z6,S⟩:∃Z8,v*i=Z8:=⟨_,I⟩;rw[R] at ZC;rw[S] at ZB;have Zw:IntKind.i64.wrap (x*g)=Z7:=by rw[R,bV];omega
   have Zv:IntKind.i64.wrap (v*i)=Z6:=by rw[S,bV];omega
   have Z2:U (g4 d e g i c b= !decide (Z7<Z6)):=by rw[U];unfold g4;rw[V.o,W.o,R,S]
   refine l4 ?_;intro P Q;clear R S;by_cases ZV:Z7<Z6
   ·have T:U (bq (g4 d e g i c) c=ak):=by
     cases ZX:bq (g4 d e g i c) c
     ·rfl
     ·have:=(cp _ _).1 ZX b ZH;rw[Z2.o] at this;simp[ZV] at this
    go_wp2
    refine gj ah ah ?_
    repeat (first | go_big_quiet_step ((first | (go_at_call 253;first | (with_reducible exact aQ (K.o _ (n.below (aM _ _)))) | (with_reducible exact aQ (B.o _ (m.below (aM _ _))))) | (go_at_call 157;first | (with_reducible exact aQ (z.o _ (m.below (aM _ _)))) | (with_reducible exact aQ (A.o _ (n.below (aM _ _))))))) | quiet_step ((first | (go_at_call 253;first | (with_reducible exact aQ (K.o _ (n.below (aM _ _)))) | (with_reducible exact aQ (B.o _ (m.below (aM _ _))))) | (go_at_call 157;first | (with_reducible exact aQ (z.o _ (m.below (aM _ _)))) | (with_reducible exact aQ (A.o _ (n.below (aM _ _))))))))
    refine dn ?_
    refine dg ?_
    intro ZA Y
    have X:=p.trans ((au w Y).mono p.size)
    go_wp2
    go_ret
    exact⟨by rw[T.o];rfl,X⟩
   ·have ZQ:U (∀f,f<b+1->g4 d e g i c f=ae):= λ f Zx=>by
     by_cases ZJ:f=b
     ·subst ZJ;rw[Z2.o];simp[ZV]
     ·exact Z3.o f E
    go_wp2
    refine gj ah ah ?_
    repeat (first | go_big_quiet_step ((first | (go_at_call 253;first | (with_reducible exact aQ (K.o _ (n.below (aM _ _)))) | (with_reducible exact aQ (B.o _ (m.below (aM _ _))))) | (go_at_call 157;first | (with_reducible exact aQ (z.o _ (m.below (aM _ _)))) | (with_reducible exact aQ (A.o _ (n.below (aM _ _))))))) | quiet_step ((first | (go_at_call 253;first | (with_reducible exact aQ (K.o _ (n.below (aM _ _)))) | (with_reducible exact aQ (B.o _ (m.below (aM _ _))))) | (go_at_call 157;first | (with_reducible exact aQ (z.o _ (m.below (aM _ _)))) | (with_reducible exact aQ (A.o _ (n.below (aM _ _))))))))
    refine dn ?_
    refine dg ?_
    intro ZA Y
    have X:=au w Y
    go_wp2
    go_roundw
    case rel=>exact⟨b+1,E,by go_num,ZQ.o,X⟩
    case measure=>simp[intOf];omega
  ·obtain rfl:b=c:=E;have T:U (bq (g4 d e g i b) b=ae):=(cp _ _).2 Z3.o;have ZI:=p.trans (w.mono p.size);go_wp2;go_ret;exact⟨by rw[T.o];rfl,ZI⟩
theorem Fa (g e:F) (d q:aG) (m s b t:J) (n o:ac) (a:af) (Z8:an a d m n) (Z6:an a q b o):
  aC 243 #[am g d m s,am e q b t] a (aw (iG g n e o)):=by
 have X:Below a.heap.size a ((a.alloc (al #[M g,aa d m s] 29)).alloc (al #[M e,aa q b t] 29)):=aD;cases w:cJ g n e o
 ·have x:U (iG g n e o=ak):=by rw[U];unfold iG;rw[w];rfl
  rw[x.o];go_enter func243,ntmps243;go_wp2_with fail;refine hj ?_;rw[w];rintro y j ⟨rfl,i⟩;refine e5 ?_;intro l;exact kV
 ·obtain⟨A,V,Z,Y⟩:=fN w;clear Z;refine ib ?_;intro Q Z9 T;subst T;obtain⟨_,_,D,L,ZX,Z2,_⟩:=cv A;obtain⟨_,_,_,R,ZW,ZY,_⟩:=cv V;refine iX ?_;intro ZZ Z1 K N P;refine yX ?_;intro f k H S ZX Z2 ZW ZY W Z4 x;have v:U (∀r,an r d b n->an r q b o->aC 313 #[am g d b s,am e q b t] r (aw (bq (g4 n o f k b) b))):= λ r C E=>E9 g e _ _ _ _ _ n o f k r C E K N.o P.o H.o S.o ZX Z2 ZW ZY W Z4
  obtain⟨B,z⟩:∃B,bq (g4 n o f k b) b=B:=⟨_,I⟩;rw[z] at v ⊢;clear Y L R D A V W Z4 z;go_enter func243,ntmps243;go_wp2_with fail;refine hj ?_;rw[w];rintro y j ⟨rfl,i⟩;have Z3:=aS i a.heap.size 0 (M g);have ZV:=aS i a.heap.size 1 (aa d b s);have ZU:=aS i (a.heap.size+1) 0 (M e);have ZT:=aS i (a.heap.size+1) 1 (aa q b t);refine e5 ?_;intro l;refine k8 ?_;intro Z7 Z5;clear i X;go_wp2_with fail;refine(v.o _ Z7 Z5).mono ?_;rintro y ZS ⟨rfl,G⟩;have u:=au l G;exact lV
theorem rc {g f d a h e:J} {i c:af} {j:ac} (k:av i d (aq a h e) j) (m:aA g f i c) (l:a<g \/ f<=a):av c d (aq a h e) j:=by
 refine m.row k (λ n b=>?_);injection b with b
 rw[<- b];exact l
theorem fK {b d a f e:J} {g c:af} {h:ac} (i:av g d (aq a f e) h) (j:aA b (b+1) g c) (k:a≠b):av c d (aq a f e) h :=
 rc i j E
theorem o4 {a f c b:J} (g:a<=16) (m:f=a*a) (j:b<a) (i:c<a):∃e d:J,IntKind.i64.wrap ((a:F)*(b:F))=(e:F) /\ IntKind.i64.wrap ((e:F)+(c:F))=(d:F) /\ d<f /\ e<=256 /\ U (a*b+c=d):=by
 have k:=uZ j i;have l:=Nat.mul_le_mul g g;have h:((a:F)*(b:F))=((a*b:J):F):=ar;exact⟨a*b,a*b+c,by rw[h,bV];omega,by rw[bV];omega;omega,E,E,I⟩
theorem o5 {W:af} {A:J} (e:TypeId) (a b c d:ay) (f:W.heap.size=A):((W.alloc (al #[a,b,c,d] e)).cell? (ad A 0)=Z a /\ (W.alloc (al #[a,b,c,d] e)).cell? (ad A 1)=Z b /\ (W.alloc (al #[a,b,c,d] e)).cell? (ad A 2)=Z c /\ (W.alloc (al #[a,b,c,d] e)).cell? (ad A 3)=Z d) /\ (W.alloc (al #[a,b,c,d] e)).frozen? (ad A 0)=ak /\ (W.alloc (al #[a,b,c,d] e)).frozen? (ad A 1)=ak /\ (W.alloc (al #[a,b,c,d] e)).frozen? (ad A 2)=ak /\ (W.alloc (al #[a,b,c,d] e)).frozen? (ad A 3)=ak:=by
 subst f;simp
structure kg where
 gF:J
 gL:J
 gD:J
 cL:J
 cD:J
 N:J
 NN:J
 pF:J
 pT:J
 cF:J
 cT:J
 lo:J
 hi:J
 A:J
structure kg.good (s:kg):Prop where
 n16:s.N<=16
 nn:s.NN=s.N*s.N
 FL:s.gF≠s.gL
 FD:s.gF≠s.gD
 LD:s.gL≠s.gD
 cF:s.lo<=s.gF /\ s.gF<s.hi
 cL:s.lo<=s.gL /\ s.gL<s.hi
 cD:s.lo<=s.gD /\ s.gD<s.hi
 pF:s.hi<=s.pF
 pT:s.hi<=s.pT
 A:s.hi<=s.A
structure h6 (s:kg) (W:af) (FL bb TO pf pt:ac):Prop where
 x0: W.cell? (ad s.A 0)=Z (M s.N)
 x1: W.cell? (ad s.A 1)=Z (aq s.gF (s.NN) (s.NN))
 x2: W.cell? (ad s.A 2)=Z (aq s.gL s.N s.cL)
 x3: W.cell? (ad s.A 3)=Z (aq s.gD s.N s.cD)
 y0: W.cell? (ad (s.A+1) 0)=Z (aq s.pF s.N s.cF)
 y1: W.cell? (ad (s.A+1) 1)=Z (aq s.pT s.N s.cT)
 z:(W.cell? (ad (s.A+1+1) 0)=Z (M 0) /\ W.cell? (ad (s.A+1+1) 1)=Z (aa aj 0 0) /\ W.cell? (ad (s.A+1+1) 2)=Z (aa aj 0 0) /\ W.cell? (ad (s.A+1+1) 3)=Z (aa aj 0 0)) /\ W.frozen? (ad (s.A+1+1) 0)=ak /\ W.frozen? (ad (s.A+1+1) 1)=ak /\ W.frozen? (ad (s.A+1+1) 2)=ak /\ W.frozen? (ad (s.A+1+1) 3)=ak
 hz:s.A+1+1<W.heap.size
 f:av W s.lo (aq s.gF (s.NN) (s.NN)) FL
 l:av W s.lo (aq s.gL s.N s.cL) bb
 d:av W s.lo (aq s.gD s.N s.cD) TO
 pf:∀k,k<s.N-> W.cell? (ad s.pF k)=Z (M (O pf k))
 pt:∀k,k<s.N-> W.cell? (ad s.pT k)=Z (M (O pt k))
theorem gM {f e a c:J} {b d:af} {k:ay} (j:aA f e b d) (h: b.cell? ⟨a,c,aj⟩=Z k) (i: b.frozen? ⟨a,c,aj⟩=ak) (g:a<f \/ e<=a): d.frozen? ⟨a,c,aj⟩=ak :=
 (j.keepF ⟨fX b _ h,i⟩ g).2
theorem h6.span {b:kg} {l d:af} {s bb t i j k m n:ac} (c:h6 b l s bb t m n) (f:b.good) (a:aA b.lo b.hi l d) (v:av d b.lo (aq b.gF (b.NN) (b.NN)) i)
  (C:av d b.lo (aq b.gL b.N b.cL) j) (u:av d b.lo (aq b.gD b.N b.cD) k):h6 b d i j k m n:=by
 have e:=f.A;have A:=f.pF;have B:=f.pT;obtain⟨⟨o,p,q,r⟩,w,x,y,z⟩:=c.z;exact⟨a.keep c.x0 (aP e),a.keep c.x1 (aP e),a.keep c.x2 (aP e),a.keep c.x3 (aP e),a.keep c.y0 (aP E),a.keep c.y1 (aP E),
  ⟨⟨a.keep o (aP E),a.keep p (aP E),a.keep q (aP E),a.keep r (aP E)⟩,gM a o w (aP E),gM a p x (aP E),gM a q y (aP E),gM a r z (aP E)⟩,
  cm c.hz a.size,v,C,u,λ h g=>a.keep (c.pf h g) (aP A),λ h g=>a.keep (c.pt h g) (aP B)⟩
theorem tX {e:af} {g a c f b:J} {h:ac} (i:av e g (aq a c f) h) (j:b<c) (d:F):av (e.setCell (ad a b) (M d)).drew g (aq a c f) (h.set b d):=(i.store j d).1.below (bI _)
theorem kB {b:af} {d c a f:J} {g:ay} (e:d<=a /\ a<c):aA d c b (b.setCell (ad a f) g).drew:=(aA.set e).trans (aA.of_below (bI _))
theorem ns {b:af} {a c:J} {d:ay}:aA a (a+1) b (b.setCell (ad a c) d).drew:=kB ⟨bL _,gB _⟩
theorem h6.setL {a:kg} {h:af} {f bb g i j:ac} (b:h6 a h f bb g i j) (c:a.good) {d:J} (l:d<a.N) (e:F):h6 a (h.setCell (ad a.gL d) (M e)).drew f (bb.set d e) g i j :=
 b.span c (kB c.cL) (fK b.f ns c.FL) (tX b.l l e) (fK b.d ns (λ k=>c.LD k.symm))
theorem h6.setD {a:kg} {h:af} {f bb g i j:ac} (b:h6 a h f bb g i j) (c:a.good) {d:J} (k:d<a.N) (e:F):h6 a (h.setCell (ad a.gD d) (M e)).drew f bb (g.set d e) i j :=
 b.span c (kB c.cD) (fK b.f ns c.FD) (fK b.l ns c.LD) (tX b.d k e)
theorem h6.setF {a:kg} {i:af} {g bb h j k:ac} (b:h6 a i g bb h j k) (c:a.good) {e:J} (l:e<a.NN) (f:F):h6 a (i.setCell (ad a.gF e) (M f)).drew (g.set e f) bb h j k :=
 b.span c (kB c.cF) (tX b.f l f) (fK b.l ns (λ d=>c.FL d.symm)) (fK b.d ns (λ d=>c.FD d.symm))
theorem mi (c:af) (a:J) (d e f g:ay):aA a (a+1) c ((((c.setCell (ad a 0) d).setCell (ad a 1) e).setCell (ad a 2) f).setCell (ad a 3) g) :=
 have b:a<=a /\ a<a+1:=⟨bL _,gB _⟩
 (((aA.set b).trans (aA.set b)).trans (aA.set b)).trans (aA.set b)
theorem MR {bb:ac} {a b:J} (g:bb.length=a) (f:b<a) (c:F):bu (O (bb.set b c)) a=bu (O bb) a+(c-O bb b):=by
 rw[qZ (f:=O bb) (g:=O (bb.set b c)) f (λ h _ e=>by rw[cO,aF λ d=>e d.1.symm]),cO,a7 ⟨I,E⟩]
theorem JI (a:kg) (N bb v P k:ac) (H:J->J->F) (Zw ZG:J->F) (Z9 G:J->J) (c:J) (o:af) (Zj:a.good) (Y5:o.heap.size=a.A) (Xb:a.pF<o.heap.size /\ a.pT<o.heap.size)
  (Yw:av o a.lo (aq a.gF (a.NN) (a.NN)) N) (Yv:av o a.lo (aq a.gL a.N a.cL) bb) (Yy:av o a.lo (aq a.gD a.N a.cD) v)
  (Yu:∀C,C<a.N-> o.cell? (ad a.pF C)=Z (M (O P C))) (Yt:∀C,C<a.N-> o.cell? (ad a.pT C)=Z (M (O k C)))
  (ZL:dV bY a.N Zw ZG H (O bb) (O v)) (Zk:gU a.N N H) (Y4:∀e,e<a.N->Zw e<=1000000000000) (Yx:∀e,e<a.N->ZG e<=1000000000000)
  (Zq:dU a.N H (O bb) P k Z9 G) (n:c<a.N) (Zt:0<O k c) (Yo:0<O v c):
  aY prog 183 #[ba #[M a.N,aq a.gF (a.NN) (a.NN),aq a.gL a.N a.cL,aq a.gD a.N a.cD],ba #[aq a.pF a.N a.cF,aq a.pT a.N a.cT],M c] o
   λ t ZH=>t=aV (ba #[M a.N,aq a.gF (a.NN) (a.NN),aq a.gL a.N a.cL,aq a.gD a.N a.cD]) /\ aA a.lo a.hi o ZH /\ ∃YL Zg YK,av ZH a.lo (aq a.gF (a.NN) (a.NN)) YL /\ av ZH a.lo (aq a.gL a.N a.cL) Zg /\ av ZH a.lo (aq a.gD a.N a.cD) YK /\
    (∃ZW,dV bY a.N Zw ZG ZW (O Zg) (O YK) /\ gU a.N YL ZW) /\ bu (O Zg) a.N<bu (O bb) a.N:=by
 obtain⟨w,YV⟩:∃w,G c=w:=⟨_,I⟩;have q:=ab Zj;have ZS:=ab Zq;have YJ:U (∀e j,e<a.N->j<a.N->0<=O N (a.N*e+j) /\ O N (a.N*e+j)<=1000000000000):= λ e j Y2 Y3=>Zk.bd ZL Y4 Y2 Y3
 have XY:U (∀e j,e<a.N->j<a.N->O N (a.N*e+j)=H e j):=Zk.2;have Z3:=ab ZL;have XX:=ab Zk;have Zf:=ab Y4;have Zc:=ab YV;have YC:U (O P w=100 /\ w<a.N):=by rw[U,<- YV];exact Zq.root (Z9 c+1) c E n Zt
 have Yl:O v c<=1000000000000:=by
  have m:=ZL.col c n;have Y6:=mr (f:= λ e=>H e c) (n:=a.N) (λ e Y2=>ZL.nn e c Y2 n);have XK:=Yx c n;omega
 obtain⟨Y9,ZR,ZQ,Xn,_⟩:=Zq.next n Zt;have Xh:(0:F)<=(c:F):=E;have Xg:(c:F)<(a.N:F):=E;have Zr:=Zj.n16;have ZC:=ab Zj.nn;have Z7:Below o.heap.size o (((o.alloc (al #[M a.N,aq a.gF (a.NN) (a.NN),aq a.gL a.N a.cL,aq a.gD a.N a.cD] 94)).alloc (al #[aq a.pF a.N a.cF,aq a.pT a.N a.cT] 134)).alloc (al #[M 0,aa aj 0 0,aa aj 0 0,aa aj 0 0] 94)):=aD;have W6:U (h6 a (((o.alloc (al #[M a.N,aq a.gF (a.NN) (a.NN),aq a.gL a.N a.cL,aq a.gD a.N a.cD] 94)).alloc (al #[aq a.pF a.N a.cF,aq a.pT a.N a.cT] 134)).alloc (al #[M 0,aa aj 0 0,aa aj 0 0,aa aj 0 0] 94)) N bb v P k):=by
  refine⟨?_,?_,?_,?_,?_,?_,?_,by simp;omega,Yw.below Z7,Yv.below Z7,Yy.below Z7,λ C YY=>ag Z7 (Yu C YY),λ C YY=>ag Z7 (Yt C YY)⟩;all_goals rw[<- Y5]
  ·simp
  ·simp
  ·simp
  ·simp
  ·simp
  ·simp
  ·exact o5 94 (M 0) (aa aj 0 0) (aa aj 0 0) (aa aj 0 0) ar
 have Ym:=(W6.o.d.cellAt n).1;have YW:=W6.o.pt c n;rw[ZQ] at YW;clear Zq ZL Zk Y4 Yx Yu Yt YV Yw Yv Yy Zj;go_enter func183,ntmps183;go_wp2;obtain⟨Z8,X8⟩:∃z,((o.alloc (al #[M a.N,aq a.gF (a.NN) (a.NN),aq a.gL a.N a.cL,aq a.gD a.N a.cD] 94)).alloc (al #[aq a.pF a.N a.cF,aq a.pT a.N a.cT] 134)).alloc (al #[M 0,aa aj 0 0,aa aj 0 0,aa aj 0 0] 94)=z:=⟨_,I⟩;rw[X8] at Z7 Ym YW W6 ⊢
 (try rw[Y5]);clear X8;have Q:=W6.o.x0;have R:=W6.o.x1;have S:=W6.o.x2;have T:=W6.o.x3;have V:=W6.o.y0;have W:=W6.o.y1;go_loopg [7,8,9] (Z9 c) (λ YM Xw j e wr=>Z8=wr /\ ∃(l i:J) (D:F),YM=Z9 l /\ j=M l /\ e=M i /\ Xw=M D /\ l<a.N /\ i<a.N /\ 1<=D /\ D<=O v c /\ U (0<O k l /\ O k l=(i:F)+1 /\ G l=w /\ jM w H (kS k G w) (lR P) c D l))
 case atStart=>exact⟨I,c,Y9,_,I,I,by go_num,I,n,ZR,E,fE _,Zt,ZQ,Zc.o,jM.start _ _ _ _ _ _⟩
 case round =>
  as_aux_lemma =>
  obtain⟨ZI,l,i,D,rfl,rfl,rfl,rfl,Zl,A,XB,Ye,x⟩:=hrel;subst ZI;have Yr:(0:F)<=(i:F):=E;have Yq:(i:F)<(a.N:F):=E;have Z5:=W6.o.pf i A;obtain⟨d,Ys,Zp,Zo,Y1⟩:=ZS.o.next Zl x.o.1;obtain rfl:d=i:=by have:=x.o.2.1;omega
  rcases Y1 with ⟨Zs,ZJ,Zi⟩ | ⟨f,r,Y,Zn,Zm,ZZ,YZ⟩
  ·as_aux_lemma =>
   rw[Zs] at Z5;obtain⟨Xp,Za,XR,XQ,Zu,XP,YG⟩:=o4 Zr ZC.o ZR n;have YU:w=d:=by rw[<- ZJ];exact x.o.2.2.1.symm
   have Yg:=(W6.o.l.cellAt A).1;have XC:=(W6.o.l.cellAt A).2.1;have Yh:O bb d<=1000000000000:=by
    have m:=Z3.o.row d A;have Y6:=mr (f:=H d) (n:=a.N) (λ j Y3=>Z3.o.nn d j A Y3);have XK:=Zf.o d A;omega
   obtain⟨L,YX⟩:∃L,O bb d=L:=⟨_,I⟩;have ZD:=ab YX;rw[YX] at Yg Yh Zi;obtain⟨ZX,YS⟩:∃ZX,O v c=ZX:=⟨_,I⟩;have Zx:=ab YS;rw[YS] at Yl Ye Yo;obtain⟨b,Yd⟩:∃b,(if L<D then L else D)=b:=⟨_,I⟩;have Ze:U (1<=b /\ b<=D /\ b<=L):=by rw[U,<- Yd];split<;>omega
   have W9:=Ze.o;have YH:U (eZ d H (kS k G d) (lR P) b c):=by
    have m:=x.o;rw[YU] at m;exact m.2.2.2.stop (nP m.2.1 m.2.2.1) Ze.o.2.1
   have YA:=ab (ZS.o.way d);have Zb:U (G c=d):=by rw[U,Zc.o,YU]
   clear x YX YS ZJ YU;go_wp2;go_big_region;obtain⟨X7,YR⟩:∃z,(Z8.setCell ⟨a.gL,d,aj⟩ (M (L-b))).drew=z:=⟨_,I⟩;have y:=ab (W6.o.setL q.o A (L-b));have Yc:aA a.lo a.hi Z8 X7:=by rw[<- YR];exact kB q.o.cL
   rw[YR] at y ⊢;clear YR Q R S T V W Yg XC Z5;have Q:=y.o.x0;have R:=y.o.x1;have S:=y.o.x2;have T:=y.o.x3;have V:=y.o.y0;have W:=y.o.y1;have Yn:=(y.o.d.cellAt n).1;have XE:=(y.o.d.cellAt n).2.1;rw[Zx.o] at Yn;go_wp2;go_big_region;obtain⟨X6,YQ⟩:∃z,(X7.setCell ⟨a.gD,c,aj⟩ (M (ZX-b))).drew=z:=⟨_,I⟩;have u:=ab (y.o.setD q.o n (ZX-b));have Yb:aA a.lo a.hi Z8 X6:=Yc.trans (by rw[<- YQ];exact kB q.o.cD);rw[YQ] at u ⊢;clear YQ Q R S T V W Yn XE y Yc Ym YW;have Q:=u.o.x0;have R:=u.o.x1;have S:=u.o.x2;have T:=u.o.x3;have V:=u.o.y0;have W:=u.o.y1;have Yf:=u.o.pt c n;rw[ZQ] at Yf;have B:=(u.o.f.cellAt Zu).1;have ZK:=(u.o.f.cellAt Zu).2.1;have ZM:=YJ.o Y9 c ZR n;rw[YG.o] at ZM;obtain⟨g,K⟩:∃g,O N Za=g:=⟨_,I⟩;have ZV:=ab K;rw[K] at B ZM;have ZI:IntKind.i64.wrap (g+b)=g+b:=bV _ E;have ZB:=ab (je.start Z3.o YH.o n XX.o ZR (nP ZQ Zb.o));rw[YG.o,ZV.o] at ZB;go_wp2;go_big_region;obtain⟨Xv,YP⟩:∃z,(X6.setCell ⟨a.gF,Za,aj⟩ (M (g+b))).drew=z:=⟨_,I⟩;have Z2:=ab (u.o.setF q.o Zu (g+b));have Ya:aA a.lo a.hi Z8 Xv:=Yb.trans (by rw[<- YP];exact kB q.o.cF);rw[YP] at Z2 ⊢;clear YP Q R S T V W B ZK u Yb Yf;have YB:U (bu (O (bb.set d (L-b))) a.N<bu (O bb) a.N):=by
    rw[U,MR W6.o.l.len A,ZD.o];omega
   have ZE:U ((∀e,O (bb.set d (L-b)) e=if e=d then O bb e-b else O bb e) /\ ∀j,O (v.set c (ZX-b)) j=if j=c then O v j-b else O v j):=by
    have W8:=W6.o.l.len;have W7:=W6.o.d.len;refine⟨λ e=>?_,λ j=>?_⟩
    ·rw[cO];by_cases t:e=d
     ·subst t;rw[a7 ⟨rfl,E⟩,a7 rfl,ZD.o]
     ·rw[aF λ ZO=>t ZO.1.symm,aF t]
    ·rw[cO];by_cases t:j=c
     ·subst t;rw[a7 ⟨rfl,E⟩,a7 rfl,Zx.o]
     ·rw[aF λ ZO=>t ZO.1.symm,aF t]
   have YD:U (b<=O bb d /\ b<=O v c):=by rw[U,ZD.o,Zx.o];omega
   generalize N.set Za (g+b)=X4 at Z2 ZB;generalize bb.set d (L-b)=ZF at Z2 YB ZE;generalize v.set c (ZX-b)=Zv at Z2 ZE;have Xa:1<=b /\ b<=1000000000000:=E;clear Zp Zo Zl XB Ye Yd Zs Zi Yh Ze YH ZD Zx ZV K ZI Yo Yl;go_wp2;as_aux_lemma =>
   go_loopg [8,9] (Z9 c) (λ YM j e wr=>∃(l i:J),YM=Z9 l /\ j=M l /\ e=M i /\ l<a.N /\ i<a.N /\ (∃X,U (h6 a wr X ZF Zv P k) /\ U (je a.N d c H (kS k G d) (lR P) b l i X)) /\ U (0<O k l /\ O k l=(i:F)+1 /\ G l=d) /\ aA a.lo a.hi Z8 wr)
   case atStart=>exact⟨c,Y9,I,I,I,n,ZR,⟨X4,Z2,ZB⟩,⟨Zt,ZQ,Zb.o⟩,Ya⟩
   case round =>
    as_aux_lemma =>
    clear Z2 ZB Ya Yr Yq XR XQ Zu XP Ys;obtain⟨Xm,i,rfl,rfl,rfl,Zl,Y0,⟨X,p,ZT⟩,x,X9⟩:=hrel;have Yr:(0:F)<=(i:F):=E;have Yq:(i:F)<(a.N:F):=E;have Z5:=p.o.pf i Y0;have Q:=p.o.x0;have R:=p.o.x1;have S:=p.o.x2;have T:=p.o.x3;have V:=p.o.y0;have W:=p.o.y1;obtain⟨Y8,Ys,Zp,Zo,Y1⟩:=ZS.o.next Zl x.o.1;obtain rfl:Y8=i:=by have:=x.o.2.1;omega
    rcases Y1 with ⟨Zs,ZJ,Zi⟩ | ⟨f,r,Y,Zn,Zm,ZZ,YZ⟩
    ·as_aux_lemma =>
     rw[Zs] at Z5;have X1:U (Y8=d):=by rw[U,<- ZJ];exact x.o.2.2
     have XW:U (∃ZW,dV bY a.N Zw ZG ZW (O ZF) (O Zv) /\ gU a.N X ZW):=by
      have m:=ZT.o;rw[X1.o] at m;exact m.last Z3.o YA.o E YD.o.1 YD.o.2 ZE.o.1 ZE.o.2
     obtain⟨⟨Xt,Xs,Xr,Xq⟩,XO,XN,XM,XL⟩:=p.o.z;have Xf:=q.o.A;have Xd:=q.o.cF;have Xc:=q.o.cL;have Xe:=q.o.cD;have X0:U (o.heap.size<=a.A+1+1):=by rw[U,Y5];omega
     have Zd:U (av wr a.lo (aq a.gF (a.NN) (a.NN)) X /\ av wr a.lo (aq a.gL a.N a.cL) ZF /\ av wr a.lo (aq a.gD a.N a.cD) Zv):=⟨p.o.f,p.o.l,p.o.d⟩;clear Zp Zo ZJ Zi ZT p
     (try go_simp)
     (repeat (first | go_skip | go_guarded | go_step | go_upon));have Xi:=X0.o;refine aK (v:=ba #[M a.N,aq a.gF (a.NN) (a.NN),aq a.gL a.N a.cL,aq a.gD a.N a.cD]) (by simp[aJ,results183,go_sem,Xt,Xs,Xr,Xq,XO,XN,XM,XL]) I ⟨I,?_,X,ZF,Zv,?_,?_,?_,XW.o,YB.o⟩
     ·refine((aA.of_below Z7).trans X9).on ?_;exact aD
     ·exact rc Zd.o.1 (mi wr (a.A+1+1) _ _ _ _) (bj E)
     ·exact rc Zd.o.2.1 (mi wr (a.A+1+1) _ _ _ _) (bj E)
     ·exact rc Zd.o.2.2 (mi wr (a.A+1+1) _ _ _ _) (bj E)
    ·as_aux_lemma =>
     obtain⟨ZP,ZY,Z6,XF,_⟩:=ZS.o.next r ZZ;rw[Y] at Z5;have XI:((f:F)+1)<100:=E;have XH:(0:F)<=(f:F):=E;have XG:(f:F)<(a.N:F):=E;have XJ:Y8≠d:=by
      intro t;have m:=YC.o.1;rw[show w=d by rw[<- Zc.o,Zb.o],<- t,Y] at m;omega
     have YT:=Zm.trans x.o.2.2;obtain⟨XU,Z1,XT,ZO,ZN,XS,ZU⟩:=o4 Zr ZC.o Y0 r;obtain⟨Xo,Yz,Xl,Xk,Y7,Xj,YF⟩:=o4 Zr ZC.o ZY r;have Yp:=ZT.o.bd Z3.o Zf.o E Y0 r;obtain⟨_,_,Yj,Zz⟩:=ZT.o.step YA.o E XJ (uX Y) (nP Z6 YT) ZY;have B:=(p.o.f.cellAt ZN).1;have ZK:=(p.o.f.cellAt ZN).2.1;rw[ZU.o,YF.o] at Zz;rw[ZU.o] at Yp Yj;obtain⟨g,K⟩:∃g,O X Z1=g:=⟨_,I⟩;rw[K] at B Yp Zz Yj;have Zy:=ab Zz;have ZI:IntKind.i64.wrap (g-b)=g-b:=bV _ E;clear Zz K Zp Zo ZT
     (try go_simp)
     (repeat (first | go_skip | go_guarded | go_step | go_upon));go_big_region;obtain⟨X5,YO⟩:∃z,(wr.setCell ⟨a.gF,Z1,aj⟩ (M (g-b))).drew=z:=⟨_,I⟩;have s:=ab (p.o.setF q.o ZN (g-b));have Xz:aA a.lo a.hi Z8 X5:=X9.trans (by rw[<- YO];exact kB q.o.cF);rw[YO] at s ⊢;clear YO Q R S T V W B ZK Z5 ZI;have Q:=s.o.x0;have R:=s.o.x1;have S:=s.o.x2;have T:=s.o.x3;have V:=s.o.y0;have W:=s.o.y1;have Zh:=s.o.pt f r;rw[Z6] at Zh;have B:=(s.o.f.cellAt Y7).1;have ZK:=(s.o.f.cellAt Y7).2.1;generalize X.set Z1 (g-b)=X3 at s Zy B;obtain⟨Z0,Yi⟩:∃Z0,O X3 Yz=Z0:=⟨_,I⟩;have XD:=s.o.f.len;rw[Yi] at B Zy;have Yk:=Zy.o.bd Z3.o Zf.o E ZY r;rw[YF.o,cO,a7 ⟨rfl,E⟩] at Yk;have Xx:IntKind.i64.wrap (Z0+b)=Z0+b:=bV _ E;clear Yi XD Yk
     (try go_simp)
     (repeat (first | go_skip | go_guarded | go_step | go_upon));go_big_region;obtain⟨Xu,YN⟩:∃z,(X5.setCell ⟨a.gF,Yz,aj⟩ (M (Z0+b))).drew=z:=⟨_,I⟩;have YE:=ab (s.o.setF q.o Y7 (Z0+b));have Xy:aA a.lo a.hi Z8 Xu:=Xz.trans (by rw[<- YN];exact kB q.o.cF);rw[YN] at YE ⊢;clear YN Q R S T V W B ZK Zh Xx;have XZ:U (0<O k f /\ O k f=(ZP:F)+1 /\ G f=d):=⟨ZZ,Z6,YT⟩;have XV:U (Z9 f<Z9 Xm):=Zn;clear Zn ZZ Z6 YT Y Zm YZ
     (try go_simp)
     (repeat (first | go_skip | go_guarded | go_step | go_upon));go_roundg (Z9 f)
     case measure=>exact XV.o
     case rel=>exact⟨f,ZP,I,by go_num,by go_num,r,ZY,⟨_,YE,Zy⟩,XZ,Xy⟩
  ·as_aux_lemma =>
   obtain⟨ZP,ZY,Z6,XF,_⟩:=ZS.o.next r ZZ;obtain⟨XU,Z1,XT,ZO,ZN,XS,ZU⟩:=o4 Zr ZC.o A r;have B:=(W6.o.f.cellAt ZN).1;have Zh:=W6.o.pt f r;have ZM:=YJ.o d f A r;rw[ZU.o] at ZM;have XI:((f:F)+1)<100:=E;rw[Y] at Z5;rw[Z6] at Zh;have XH:(0:F)<=(f:F):=E;have XG:(f:F)<(a.N:F):=E;have YI:U (O N Z1=H d f):=by rw[U,<- ZU.o];exact XY.o d f A r
   obtain⟨g,K⟩:∃g,O N Z1=g:=⟨_,I⟩;have ZV:=ab K;rw[K] at B ZM;obtain⟨Z4,XA⟩:∃Z4,(if g<D then g else D)=Z4:=⟨_,I⟩;have ZA:U (1<=Z4 /\ Z4<=D /\ Z4<=g):=by
    have:0<g:=by rw[<- ZV.o,YI.o];exact YZ
    rw[U,<- XA];split<;>omega
   have X2:U (0<O k f /\ O k f=(ZP:F)+1 /\ G f=w /\ jM w H (kS k G w) (lR P) c Z4 f):=by
    have m:=x.o;refine⟨ZZ,Z6,Zm.trans m.2.2.1,?_⟩;refine m.2.2.2.step (b:=d) (nP m.2.1 m.2.2.1) ?_ (uX Y) ZA.o.2.1 (by rw[<- YI.o,ZV.o];exact ZA.o.2.2);intro t;have Y6:=YC.o.1;rw[<- t,Y] at Y6;omega
   clear K;go_wp2;go_roundg (Z9 f)
   case measure=>exact Zn
   case rel=>exact⟨I,f,ZP,Z4,I,by go_num,by go_num,I,r,ZY,ZA.o.1,by have:=ZA.o.2.1;omega,X2⟩
end Go.Proofs.YtkjnhlpccgjfhaaGreatDoor
