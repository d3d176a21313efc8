/- A part of the proof: lemmas (my texts, shortened by a program of mine). -/
import Derived.Test.YtkjnhlpccgjfhaaGreatDoorC26
import Derived.Test.YtkjnhlpccgjfhaaGreatDoorC27
set_option linter.all false
set_option maxRecDepth 100000
set_option maxHeartbeats 4000000
namespace Go.Proofs.YtkjnhlpccgjfhaaGreatDoor
open Go.RowKit
open Go.Proofs.Tryz
open Bool renaming false->ak,not_false->n4,not_true->nY,true->ae
open _root_.ByteArray renaming mk->aN
open Go renaming Oper->bD,Value->ay,World->af,bodyPost_ret->aK,callFunc->b0,results->aJ,wpQuiet_nil->dn
open Go.Act renaming put->aT
open Go.BinOp renaming and->fY
open Go.IntKind renaming i64->cz
open Go.IntWalk renaming i64_in->bV
open Go.Lib renaming toList_data->mG
open Go.Obj renaming cells->al
open Go.Region renaming Mode->hY
open Go.Result renaming andThen_ok->ex
open Go.Sem renaming run->c9,run_bind->eC,run_pure->ey
open Go.Value renaming agg->ba,bool->aw,slice->aa,string->aE,tuple->aL
open Go.World renaming cell?_setCell_far->dI,drew->dH,ownsRow_lit->fF
open Int renaming toNat_natCast->cI
open Nat renaming le_refl->bL
open Option renaming isNone_iff_eq_none->eB,none->aj,some->Z
open _root_ renaming Array->bg,Bool->a8,Int->F,Nat->J,beq_eq_false_iff_ne->dx,beq_iff_eq->cR,decide_eq_false->iP,decide_eq_true->fW,if_neg->aF,if_pos->a7,rfl->I
variable {p q:Prop}
theorem Fu (i:F) (g:aG) (H k:J) (e:ac) (a:af) (n:an a g H e) (L:aI i e=ae):
  db 174 #[am i g H k] a (bQ e H):=by
 obtain⟨Z1,Z3,Z6,W,ZZ,ZY,_⟩:=bt L;obtain rfl:H=e.length:=n.len.symm;obtain⟨c,B⟩:∃c,e.length=c:=⟨_,I⟩;rw[B] at n Z6;have Z9:U (∀b,b<c->0<=O e b /\ O e b<=1000000):=by show ∀b,b<c->_;rw[<- B];exact W
 have A:U (∀d,an d g c e->aC 63 #[am i g c k] d (aw ae)):= λ d Z7=>by rw[<- L];exact dA _ _ _ _ e d Z7
 rw[B];clear Z3 W B L Z1 ZZ ZY;go_enter func174,ntmps174;go_wp2;obtain⟨j,m⟩:∃Z8,(a.alloc (al #[M i,aa g c k] 29)).alloc (al #[] 3)=Z8:=⟨_,I⟩;have s: j.cell? (ad a.heap.size 0)=Z (M i):=by rw[<- m];simp
 have t: j.cell? (ad a.heap.size 1)=Z (aa g c k):=by rw[<- m];simp
 have Z2:av j (a.heap.size+1) (aq (a.heap.size+1) 0 0) (bQ e 0):=by
  have:av ((a.alloc (al #[M i,aa g c k] 29)).alloc (al #[] 3)) (a.alloc (al #[M i,aa g c k] 29)).heap.size (aq ((a.alloc (al #[M i,aa g c k] 29)).heap.size) 0 0) []:=fF _ #[] 0 aZ (by unfold maxLen;omega) I;rw[m] at this;simpa [bQ,bx] using this
 have l:ap a j:=by rw[<- m];exact aD
 have ZP:a.heap.size+1<j.heap.size:=by rw[<- m];simp
 rw[m];clear m;go_loopw [3,4] (λ Z0 N wr=>∃(b:J) (Q:ay),b<=c /\ N=M b /\ Z0=Q /\ av wr (a.heap.size+1) Q (bQ e b) /\ Below (a.heap.size+1) j wr /\ j.heap.size<=wr.heap.size) (λ _ N _=>c-(intOf N).toNat)
 case atStart=>exact⟨0,_,E,I,I,Z2,Below.refl _ _,bL _⟩
 case round =>
  obtain⟨b,Q,ZT,rfl,rfl,v,y,ZN⟩:=hrel;refine iy ?_;intro f w z;by_cases V:b<c
  ·have ZS:(0:F)<=(b:F):=E;have ZR:(b:F)<(c:F):=E;have ZQ:=Z9.o b V;have Z4:=oM e b;go_wp2_with fail;refine oj ?_;intro x o q u r w z D;obtain⟨S,ZM,rfl,ZU,ZV,Z5⟩:=n.at r V;clear v y o;by_cases p:O e b=0
   ·have K:U (bQ e (b+1)=bQ e b):=by rw[U,hH,a7 p]
    rw[p] at Z5;clear p;go_wp2;go_roundw
    case rel=>exact⟨b+1,_,E,by go_num,I,by rw[K.o];exact q,u,E⟩
    case measure=>simp[intOf];omega
   ·have K:U (bQ e (b+1)=bQ e b++[(b:F)]):=by rw[U,hH,aF p]
    have ZO:0<O e b:=E;obtain⟨P,R⟩:∃P,U ((bQ e b).length=P):=⟨_,I⟩;rw[R.o] at Z4;clear p;go_wp2_with (at_builtin;refine iz I _ _ I (a.heap.size+1) _ _ P R.o a6 (q.below (az x _)) _ _ (b:F) a6 ar E (by simp;omega) ?_;intro ZW ZX d Y C);have X:=ab (cV (B:=a.heap.size+1) (u.alloc E _) (by simp;omega) C (λ S G=>(q.block S G).1));refine pY ?_;intro T;clear C q f r u;go_roundw
    case rel=>exact⟨b+1,_,E,by go_num,I,by rw[K.o];exact Y,X.o,T⟩
    case measure=>simp[intOf];omega
  ·exact pL
def lJ (a:ac) (b:J):a8:=bq (λ c=>hQ (O a b).toNat (O a c).toNat) b
theorem Lm (a:J):hQ a a=ae:=by unfold hQ;simp
theorem Ln (a b:J):hQ a b=hQ b a:=by unfold hQ;rw[Bool.or_comm]
theorem Lo (f:ac):iJ f=bq (lJ f) f.length:=by
 rw[Bool.eq_iff_iff];unfold iJ;rw[cp,cp];constructor
 ·intro e c g;have a:=e c g;unfold pe at a;rw[cp] at a;unfold lJ;rw[cp];exact λ d h=>a d E
 ·intro e c g;unfold pe;rw[cp];intro d h;rcases Nat.lt_trichotomy d c with b | b | b
  ·have a:=e c g;unfold lJ at a;rw[cp] at a;exact a d b
  ·rw[b];exact Lm _
  ·have a:=e d h;unfold lJ at a;rw[cp] at a;rw[Ln];exact a c b
theorem NK:∀a b:Fin 16,(bits fY cz ((a.val:J):F) ((b.val:J):F)==((a.val:J):F))=decide (a.val&&&b.val=a.val) /\ (bits fY cz ((a.val:J):F) ((b.val:J):F)==((b.val:J):F))=decide (b.val&&&a.val=b.val):=cS
theorem NL (a b:J) (d:a<16) (e:b<16):(bits fY cz (a:F) (b:F) != (a:F))= !decide (a&&&b=a) /\ (bits fY cz (a:F) (b:F) != (b:F))= !decide (b&&&a=b):=by
 have c:=NK ⟨a,d⟩ ⟨b,e⟩;exact⟨by unfold bne;rw[c.1],by unfold bne;rw[c.2]⟩
theorem F3 (u:F) (p:aG) (d y:J) (i:ac) (w:af) (Z8:an w p d i) (P:aI u i=ae):
  aC 69 #[am u p d y] w (aw (iJ (bQ i d))):=by
 have Z3:=az w (al #[M u,aa p d y] 29);obtain⟨ZI,ZL,ZQ,_,_,_,_⟩:=cv P;have Zn:d<=16:=by have:=Z8.len;omega
 have Z5:=ab (Fu u p d y i _ (Z8.below Z3) P);have ZW:U (∀B,an B p d i->aC 63 #[am u p d y] B (aw ae)):= λ B Z4=>by rw[<- P];exact dA _ _ _ _ i B Z4
 have R:U (∀a,a<(bQ i d).length->∃b:J,b<16 /\ O (bQ i d) a=(b:F)):= λ a Z1=>by
  obtain⟨b,Z4,ZP,_⟩:=oX i d a Z1;exact⟨b,E,ZP⟩
 have W:=ab (Lo (bQ i d));obtain⟨n,Z2⟩:∃n,bQ i d=n:=⟨_,I⟩;rw[Z2] at Z5 R W ⊢;clear Z2 ZL ZQ P ZI;go_enter func69,ntmps69;go_wp2_with fail;refine Z5.o.mono ?_;rintro f Z7 ⟨⟨Zh,rfl,ZZ⟩,H⟩;obtain⟨Zy,r,Zz,rfl,A⟩:=ZZ.ints;have ZK:=aS H w.heap.size 0 (M u);have ZJ:=aS H w.heap.size 1 (aa p d y);have D:ap w Z7:=Below.trans Z3 (H.mono ar);have Q:=ab A.len;have Zu:=A.cap;clear ZZ H;go_wp2;go_loopw [4] (λ q wr=>∃c:J,c<=r /\ q=M c /\ U (∀a,a<c->lJ n a=ae) /\ ap Z7 wr) (λ q _=>r-(intOf q).toNat)
 case atStart=>exact⟨0,E,I,λ a ZR=>E,Below.refl _ _⟩
 case round =>
  obtain⟨c,Zq,rfl,Z6,z⟩:=hrel;have Zp:(0:F)<=(c:F):=E;by_cases N:c<r
  ·obtain⟨ZC,Zk,rfl,Zx,ZY,K⟩:=A.at z N;obtain⟨b,ZO,Zf⟩:=R.o c (by rw[Q.o];exact N);rw[Zf] at K;have V:=ab Zf;have Zo:(c:F)<(r:F):=E;clear Zf;go_wp2;obtain⟨j,rfl⟩:∃g:af,g=wr:=⟨_,I⟩;clear K ZY;go_loopw [5] (λ q wr=>∃a:J,a<=c /\ q=M a /\ U (∀g,g<a->hQ b (O n g).toNat=ae) /\ ap Z7 wr) (λ q _=>c-(intOf q).toNat)
   case atStart=>exact⟨0,E,I,λ g ZR=>E,z⟩
   case round =>
    obtain⟨a,Z1,rfl,C,t⟩:=hrel;have Zt:(0:F)<=(a:F):=E;by_cases ZM:a<c
    ·obtain⟨ZB,Zj,X,Zw,ZE,ZN⟩:=A.at t (show a<r from E);injection X with X
     injection X with ZV ZU
     subst ZV ZU;obtain⟨o,ZH,Z9⟩:=R.o a (by rw[Q.o];omega);rw[Z9] at ZN;have ZX:=ab Z9;have Zs:(a:F)<(r:F):=E;have Zr:(a:F)<(c:F):=E;obtain⟨ZA,Zi,Y,Zv,ZD,K⟩:=A.at t N;injection Y with Y
     injection Y with ZT ZS
     subst ZT ZS;rw[V.o] at K;obtain⟨s,v⟩:=NL b o ZO ZH;obtain⟨Zg,ZG⟩:∃ZF,bits fY cz (b:F) (o:F)=ZF:=⟨_,I⟩;rw[ZG] at s v;have m:U (hQ b (O n a).toNat=(decide (b&&&o=b)||decide (o&&&b=o))):=by rw[U,ZX.o,cI];rfl
     clear Z9;cases e:decide (b&&&o=b)
     ·cases l:decide (o&&&b=o)
      ·rw[e] at s;rw[l] at v;simp only[n4] at s v;have T:U (iJ n=ak):=by
        rw[U,W.o];refine jn (k:=c) (by rw[Q.o];exact N) ?_;unfold lJ;rw[V.o,cI];exact jn (k:=a) ZM (by rw[m.o,e,l];rfl)
       clear m e l;go_wp2_with fail;refine cC ?_;repeat (first | go_big_quiet_step ((fail)) | quiet_step ((fail)))
       refine et ?_;intro L k;have G:=au (D.trans (t.mono D.size)) k;clear k;go_wp2;go_ret;exact⟨by rw[T.o];rfl,G⟩
      ·have x:U (∀g,g<a+1->hQ b (O n g).toNat=ae):= λ g Z0=>by
        exact yg
       rw[e] at s;rw[l] at v
       simp only[n4,nY] at s v
       clear m e l
       go_wp2_with fail
       refine gj ah ah ?_
       repeat (first | go_big_quiet_step ((fail)) | quiet_step ((fail)))
       refine dn ?_
       refine dg ?_
       intro L k
       have S:=ab (au t k)
       clear k
       go_wp2
       go_roundw
       case rel=>exact⟨a+1,E,by go_num,x,S.o⟩
       case measure=>simp[intOf];omega
     ·have x:U (∀g,g<a+1->hQ b (O n g).toNat=ae):= λ g Z0=>by
       exact xd
      rw[e] at s
      simp only[nY] at s
      clear m e v
      go_wp2_with fail
      refine gj ah ah ?_
      repeat (first | go_big_quiet_step ((fail)) | quiet_step ((fail)))
      refine dn ?_
      refine dg ?_
      intro L k
      have S:=ab (au t k)
      clear k
      go_wp2
      go_roundw
      case rel=>exact⟨a+1,E,by go_num,x,S.o⟩
      case measure=>simp[intOf];omega
    ·obtain rfl:a=c:=E;have x:U (∀g,g<a+1->lJ n g=ae):= λ g Z0=>by
      by_cases f:g=a
      ·subst f;unfold lJ;rw[V.o,cI];exact(cp _ _).2 C.o
      ·exact Z6.o g E
     go_wp2;go_roundw
     case rel=>exact⟨a+1,E,by go_num,x,t⟩
     case measure=>simp[intOf];omega
  ·obtain rfl:c=r:=E;have T:U (iJ n=ae):=by rw[U,W.o];exact(cp _ _).2 (by rw[Q.o];exact Z6.o)
   have Zm:=ag z ZK;have Zl:=ag z ZJ;have G:=D.trans (z.mono D.size);go_wp2_with fail;refine(ZW.o _ (Z8.below G)).mono ?_;rintro f L ⟨rfl,k⟩;go_wp2;go_ret;exact⟨by rw[T.o];rfl,au G k⟩
section
variable {P : Program} {md : hY} {ops : bg bD} {Q : Exit → Act → af → Prop} {S S' T : af → Prop} {p : J}
theorem AW (e:∀a,S' a->S a):∀(b:J) (f:bg a8) (d:Act) (a:af),de P md ops Q S' T p b f d a->de P md ops Q S T p b f d a
 | 0,_,_,_,j=>j
 | b+1,_,_,_,⟨g,h⟩=>⟨g,λ k i=>wpOp_mono (λ _ _ c=>⟨⟨e _ c.1.1,c.1.2⟩,AW e b _ _ _ c.2⟩) (h k i)⟩
end
theorem Ey (g q:F) (s t:aG) (m y b z:J) (n o:ac) (a:af) (Z8:an a s m n) (Z6:an a t b o):
  aC 30 #[am g s m y,am q t b z] a (aL #[ba #[M (gR g n q o).num,M (gR g n q o).den],aw (gR g n q o).ok]):=by
 have X:Below a.heap.size a (((a.alloc (al #[M g,aa s m y] 29)).alloc (al #[M q,aa t b z] 29)).alloc (al #[M 0,M 0] 55)):=((az a _).alloc ar _).alloc bO _;cases B:cJ g n q o
 ·have ZI:=ab (By B);rw[ZI.o];go_enter func30,ntmps30;go_wp2_with fail;refine jg ?_;refine iV ?_;intro u c d e f l;go_wp2;refine aK (v:=bz 0 0 ak) (by simp[aJ,results30,go_sem,c,d,e,f]) I ⟨?_,?_⟩
  ·rfl
  ·exact bB
 ·obtain⟨A,Zr,Y6,Y⟩:=fN B;clear Y6;refine ib ?_;intro Q Z9 T;subst T;obtain⟨_,_,Y8,L,Zh,Zg,_⟩:=bt A;obtain⟨_,_,_,R,Zf,Ze,_⟩:=bt Zr;refine iX ?_;intro ZZ Z1 K N P;have Zk:=jY (λ w x=>w&&&x) n o b b b K N.o P.o b aZ 0;have Zo:U (∀r,an r s b n->aC 76 #[am g s b y] r (M (aW n))):= λ r ZJ=>hn _ _ _ _ n r ZJ A
  have Zn:U (∀r,an r t b o->aC 76 #[am q t b z] r (M (aW o))):= λ r ZJ=>hn _ _ _ _ o r ZJ Zr
  have ZI:U (gR g n q o=bv (O (bN (λ w x=>w&&&x) n o b b b) 0) (aW n*aW o)):=by rw[U];unfold gR;rw[B,Q.o,Z9.o];rfl
  rw[ZI.o];have Zj:(bN (λ w x=>w&&&x) n o b b b).length=b:=jj _ _ _ _ _ _;obtain⟨ZU,Zp⟩:∃YZ,O (bN (λ w x=>w&&&x) n o b b b) 0=YZ:=⟨_,I⟩;rw[Zp] at Zk ⊢;obtain⟨ZO,Zv⟩:∃ZO,aW n=ZO:=⟨_,I⟩;obtain⟨ZN,Zu⟩:∃ZN,aW o=ZN:=⟨_,I⟩;have Y5:=un Zh Zg Zf Ze;rw[Zv,Zu] at Y5 ⊢;rw[Zv] at Zo Zh Zg;rw[Zu] at Zn Zf Ze;obtain⟨ZV,Zt⟩:∃Y3,bv ZU (ZO*ZN)=Y3:=⟨_,I⟩;rw[Zt];have Zb:U (∀r,aC 77 #[M ZU,M (ZO*ZN)] r (bz ZV.num ZV.den ZV.ok)):= λ r=>by rw[<- Zt];exact oD _ _ r E E E E E
  refine yo ?_;intro Z2;have Za:=ab Zj;have Y9:=ab Zp;clear Y L R Y8 A Zr Zt Zj Zp Zv Zu Zk ZI;go_enter func30,ntmps30;go_wp2_with fail;refine jg ?_;refine iW ?_;intro u i c d e f D G C H l;refine k8 ?_;intro Z7 Z5;refine m6 ?_;intro ZP;clear i X;go_wp2_with fail;refine gJ (λ r:af=>r.cell? (ad a.heap.size 0)=Z (M g) /\ r.cell? (ad a.heap.size 1)=Z (aa s b y) /\ r.cell? (ad (a.heap.size+1) 0)=Z (M q) /\ r.cell? (ad (a.heap.size+1) 1)=Z (aa t b z)) (λ _=>True) 13 ah ?_;change de _ _ _ _ _ _ _ _ _ _ (dH u);have v:(λ r:af=>r.cell? (ad a.heap.size 0)=Z (M g) /\ r.cell? (ad a.heap.size 1)=Z (aa s b y) /\ r.cell? (ad (a.heap.size+1) 0)=Z (M q) /\ r.cell? (ad (a.heap.size+1) 1)=Z (aa t b z)) (dH u):=⟨D,G,C,H⟩;have Zz:=bI u;refine bX (i:=0) (v:=?_) I ah ah ah (λ _ _ _ S=>S) aX (Or.inl ⟨a6,λ r W=>?_⟩) v (λ _=>trivial) ?_;rotate_left
  ·obtain⟨Z4,Z3,ZY,ZX⟩:=W;go_simp;first | done | rfl
  simp only[aT];refine bX (i:=1) (v:=?_) I ah ah ah (λ _ _ _ S=>S) aX (Or.inl ⟨a6,λ r W=>?_⟩) v (λ _=>trivial) ?_;rotate_left
  ·obtain⟨Z4,Z3,ZY,ZX⟩:=W;go_simp;first | done | rfl
  simp only[aT];refine bX (i:=5) (v:=?_) I ah ah ah (λ _ _ _ S=>S) aX (Or.inl ⟨a6,λ r W=>?_⟩) v (λ _=>trivial) ?_;rotate_left
  ·obtain⟨Z4,Z3,ZY,ZX⟩:=W;go_simp;first | done | rfl
  simp only[aT];refine bX (i:=7) (v:=?_) I ah ah ah (λ _ _ _ S=>S) aX (Or.inl ⟨a6,λ r W=>?_⟩) v (λ _=>trivial) ?_;rotate_left
  ·obtain⟨Z4,Z3,ZY,ZX⟩:=W;go_simp;first | done | rfl
  simp only[aT];refine e7 2 I ah a6 (λ k j=>?_);go_simp;refine(Z2.o _ (Z7.below Zz) (Z5.below Zz)).mono ?_;rintro V Y2 ⟨⟨YP,rfl,Zq⟩,Zl⟩;have ZT:=au Zz Zl;obtain⟨YX,Y4,YW,rfl,Zs⟩:=Zq.ints;have Y7:b=Y4:=by rw[<- Zs.len];exact Za.o.symm
  subst Y7;obtain⟨ZW,ZK,rfl,YS,YR,ZG⟩:=Zs.at bA (show 0<b from E);rw[Y9.o] at ZG;rw[Nat.add_zero] at ZG;go_simp;have Zy:(λ r:af=>r.cell? (ad a.heap.size 0)=Z (M g) /\ r.cell? (ad a.heap.size 1)=Z (aa s b y) /\ r.cell? (ad (a.heap.size+1) 0)=Z (M q) /\ r.cell? (ad (a.heap.size+1) 1)=Z (aa t b z)) Y2:=⟨ag ZT D,ag ZT G,ag ZT C,ag ZT H⟩;refine j _ _ Zy (λ _=>trivial) ?_;clear j k v;have v:=Zy;clear Zy;refine AW (S':= λ r:af=>r.cell? (ad a.heap.size 0)=Z (M g) /\ r.cell? (ad a.heap.size 1)=Z (aa s b y) /\ r.cell? (ad (a.heap.size+1) 0)=Z (M q) /\ r.cell? (ad (a.heap.size+1) 1)=Z (aa t b z) /\ r.cell? ⟨ZW,ZK,aj⟩=Z (M ZU)) (λ r S=>⟨S.1,S.2.1,S.2.2.1,S.2.2.2.1⟩) _ _ _ _ ?_;have ZL:(λ r:af=>r.cell? (ad a.heap.size 0)=Z (M g) /\ r.cell? (ad a.heap.size 1)=Z (aa s b y) /\ r.cell? (ad (a.heap.size+1) 0)=Z (M q) /\ r.cell? (ad (a.heap.size+1) 1)=Z (aa t b z) /\ r.cell? ⟨ZW,ZK,aj⟩=Z (M ZU)) _:=⟨v.1,v.2.1,v.2.2.1,v.2.2.2,ZG⟩;clear v;have v:=ZL;clear ZL;refine bX (i:=3) (v:=?_) I ah ah ah (λ _ _ _ S=>S) aX (Or.inl ⟨a6,λ r W=>?_⟩) v (λ _=>trivial) ?_;rotate_left
  ·obtain⟨Z4,Z3,ZY,ZX,ZH⟩:=W;have YQ:0<b:=E;go_simp;first | done | rfl
  simp only[aT];refine bX (i:=4) (v:=?_) I ah ah ah (λ _ _ _ S=>S) aX (Or.inl ⟨a6,λ r W=>?_⟩) v (λ _=>trivial) ?_;rotate_left
  ·obtain⟨Z4,Z3,ZY,ZX,ZH⟩:=W;go_simp;first | done | rfl
  simp only[aT];refine e7 6 I ah a6 (λ k j=>?_);go_simp;refine(Zo.o _ (Z7.below ZT)).mono ?_;rintro V Y1 ⟨rfl,ZS⟩;have ZA:=au ZT ZS;go_simp;have ZL:(λ r:af=>r.cell? (ad a.heap.size 0)=Z (M g) /\ r.cell? (ad a.heap.size 1)=Z (aa s b y) /\ r.cell? (ad (a.heap.size+1) 0)=Z (M q) /\ r.cell? (ad (a.heap.size+1) 1)=Z (aa t b z) /\ r.cell? ⟨ZW,ZK,aj⟩=Z (M ZU)) Y1:=⟨ag ZS v.1,ag ZS v.2.1,ag ZS v.2.2.1,ag ZS v.2.2.2.1,ag ZS v.2.2.2.2⟩;refine j _ _ ZL (λ _=>trivial) ?_;clear j k v;have v:=ZL;clear ZL;refine oi ?_;intro k j;go_simp;refine(Zn.o _ (Z5.below ZA)).mono ?_;rintro V Y0 ⟨rfl,ZR⟩;have Zm:=au ZA ZR;go_simp;have Zx:(λ r:af=>r.cell? (ad a.heap.size 0)=Z (M g) /\ r.cell? (ad a.heap.size 1)=Z (aa s b y) /\ r.cell? (ad (a.heap.size+1) 0)=Z (M q) /\ r.cell? (ad (a.heap.size+1) 1)=Z (aa t b z) /\ r.cell? ⟨ZW,ZK,aj⟩=Z (M ZU)) Y0:=⟨ag ZR v.1,ag ZR v.2.1,ag ZR v.2.2.1,ag ZR v.2.2.2.1,ag ZR v.2.2.2.2⟩;refine j _ _ Zx (λ _=>trivial) ?_;clear j k v;have v:=Zx;clear Zx;refine bX (i:=9) (v:=?_) I ah ah ah (λ _ _ _ S=>S) aX (Or.inl ⟨a6,λ r W=>?_⟩) v (λ _=>trivial) ?_;rotate_left
  ·obtain⟨Z4,Z3,ZY,ZX,ZH⟩:=W;go_simp;first | done | rfl
  simp only[aT];rw[show IntKind.i64.wrap (ZO*ZN)=ZO*ZN from bV _ E];refine m0 ?_;intro k j;go_simp;refine(Zb.o _).mono ?_;rintro V Zi ⟨rfl,ZQ⟩;have ZM:=au Zm ZQ;go_simp;have Zw:(λ r:af=>r.cell? (ad a.heap.size 0)=Z (M g) /\ r.cell? (ad a.heap.size 1)=Z (aa s b y) /\ r.cell? (ad (a.heap.size+1) 0)=Z (M q) /\ r.cell? (ad (a.heap.size+1) 1)=Z (aa t b z) /\ r.cell? ⟨ZW,ZK,aj⟩=Z (M ZU)) Zi:=⟨ag ZQ v.1,ag ZQ v.2.1,ag ZQ v.2.2.1,ag ZQ v.2.2.2.1,ag ZQ v.2.2.2.2⟩;refine j _ _ Zw (λ _=>trivial) ?_;clear j k v;have v:=Zw;clear Zw;refine bX (i:=11) (v:=?_) I ah ah ah (λ _ _ _ S=>S) aX (Or.inl ⟨a6,λ r W=>?_⟩) v (λ _=>trivial) ?_;rotate_left
  ·obtain⟨Z4,Z3,ZY,ZX,ZH⟩:=W;go_simp;first | done | rfl
  simp only[aT];refine bX (i:=12) (v:=?_) I ah ah ah (λ _ _ _ S=>S) aX (Or.inl ⟨a6,λ r W=>?_⟩) v (λ _=>trivial) ?_;rotate_left
  ·obtain⟨Z4,Z3,ZY,ZX,ZH⟩:=W;go_simp;first | done | rfl
  simp only[aT];have YV:=au l ZM;have Zd:=aB ZM c e;have Zc:=aB ZM d f;replace c:=ag ZM c;replace d:=ag ZM d;have ZF:=v.1;have ZE:=v.2.1;have ZD:=v.2.2.1;have ZC:=v.2.2.2.1;have ZB:=v.2.2.2.2;clear v e f ZT ZA Zm ZM Zl ZS ZR ZQ;refine m7 ?_;intro k j;have YU:u.heap.size<=ZW:=(Zq.block _ I).1;have YT:a.heap.size+1+1≠ZW:=E;refine j _ _ ?_ (λ _=>trivial) ?_
  ·exact⟨(dI _ _ _ _ bO).trans ((dI _ _ _ _ bO).trans ZF),(dI _ _ _ _ bO).trans ((dI _ _ _ _ bO).trans ZE),(dI _ _ _ _ bO).trans ((dI _ _ _ _ bO).trans ZD),(dI _ _ _ _ bO).trans ((dI _ _ _ _ bO).trans ZC),(dI _ _ _ _ bO).trans ((dI _ _ _ _ bO).trans ZB)⟩
  clear j k;have v:(λ r:af=>r.cell? (ad a.heap.size 0)=Z (M g) /\ r.cell? (ad a.heap.size 1)=Z (aa s b y) /\ r.cell? (ad (a.heap.size+1) 0)=Z (M q) /\ r.cell? (ad (a.heap.size+1) 1)=Z (aa t b z) /\ r.cell? ⟨ZW,ZK,aj⟩=Z (M ZU)) ((Zi.setCell (ad (a.heap.size+1+1) 0) (M ZV.num)).setCell (ad (a.heap.size+1+1) 1) (M ZV.den)):=⟨(dI _ _ _ _ bO).trans ((dI _ _ _ _ bO).trans ZF),(dI _ _ _ _ bO).trans ((dI _ _ _ _ bO).trans ZE),(dI _ _ _ _ bO).trans ((dI _ _ _ _ bO).trans ZD),(dI _ _ _ _ bO).trans ((dI _ _ _ _ bO).trans ZC),(dI _ _ _ _ bO).trans ((dI _ _ _ _ bO).trans ZB)⟩;refine mT ?_;intro k j;go_simp;refine j _ _ v (λ _=>trivial) ?_;clear j k;clear v ZF ZE ZD ZC ZB Zq Zs ZG;refine tf ah ?_ _;go_wp2;refine aK (v:=bz ZV.num ZV.den ZV.ok) (by simp[aJ,results30,go_sem,c,d,Zd,Zc]) I ⟨?_,?_⟩
  ·rfl
  ·exact aD
theorem Ez (g q:F) (s t:aG) (m y b z:J) (n o:ac) (a:af) (Z8:an a s m n) (Z6:an a t b o):
  aC 31 #[am g s m y,am q t b z] a (aL #[ba #[M (hu g n q o).num,M (hu g n q o).den],aw (hu g n q o).ok]):=by
 have X:Below a.heap.size a (((a.alloc (al #[M g,aa s m y] 29)).alloc (al #[M q,aa t b z] 29)).alloc (al #[M 0,M 0] 55)):=aD;cases B:cJ g n q o
 ·have W:=ab (Bz B);rw[W.o];go_enter func31,ntmps31;go_wp2_with fail;refine jg ?_;refine iV ?_;intro u c d e f l;go_wp2;refine aK (v:=bz 0 0 ak) (by simp[aJ,results31,go_sem,c,d]) I ⟨?_,?_⟩
  ·rfl
  ·exact bB
 ·obtain⟨A,ZF,Zm,Y⟩:=fN B;have Zr:=ab A;have Zq:=ab ZF;clear Zm;refine ib ?_;intro Q Z9 T;subst T;obtain⟨_,_,Zo,L,ZU,Z4,_⟩:=cv A;obtain⟨_,_,_,R,ZT,Z3,_⟩:=cv ZF;refine iX ?_;intro ZZ Z1 K N P;refine yN ?_;intro v S j ZY ZX ZU Z4 ZT Z3 ZC ZN ZO W Y3 ZD;have ZV:U (∀k,an k s b n->aC 76 #[am g s b y] k (M v)):= λ k ZQ=>by rw[<- ZY.o];exact hn _ _ _ _ n k ZQ Zr.o
  have ZR:U (∀k,an k t b o->aC 76 #[am q t b z] k (M S)):= λ k ZQ=>by rw[<- ZX.o];exact hn _ _ _ _ o k ZQ Zq.o
  have Zs:U (∀k,aC 77 #[M (ih n o v S b),M (v*S)] k (bz j.num j.den j.ok)):= λ k=>by rw[<- Y3];exact oD _ _ k E E E E E
  clear Y L R Zo A ZF Y3 ZO;go_enter func31,ntmps31;go_wp2_with fail;refine jg ?_;refine iW ?_;intro u i c d e f D G C H l;refine k8 ?_;intro Z7 Z5;refine m6 ?_;intro ZP;clear i X;go_wp2;go_loopw [6,7] (λ Zl ZE wr=>∃p:J,p<=b /\ ZE=M p /\ Zl=M (ih n o v S p) /\ ap u wr) (λ _ ZE _=>b-(intOf ZE).toNat)
  case atStart=>exact⟨0,E,I,I,Below.refl _ _⟩
  case round =>
   obtain⟨p,Z0,rfl,rfl,w⟩:=hrel;obtain⟨ZK,rfl⟩:∃Zi:af,Zi=wr:=⟨_,I⟩;replace D:=ag w D;replace G:=ag w G;replace C:=ag w C;replace H:=ag w H;refine ot ?_;intro e f c d;have r:=Z7.below w;have ZW:=Z5.below w;by_cases Z2:p<b
   ·obtain⟨Ze,Y7,rfl,Zb,Zg,Y9⟩:=r.at bA Z2;obtain⟨Zd,Y6,rfl,Za,Zf,Y8⟩:=ZW.at bA Z2;refine y8 ?_;intro ZH ZG ZM ZL ZB Zy ZA Zz ZJ ZI ZS Zu Zt;go_wp2;refine cC ?_;repeat (first | go_big_quiet_step ((go_at_call 76;first | (with_reducible exact aQ (ZV.o _ (r.below (aM _ _)))) | (with_reducible exact aQ (ZR.o _ (ZW.below (aM _ _)))))) | quiet_step ((go_at_call 76;first | (with_reducible exact aQ (ZV.o _ (r.below (aM _ _)))) | (with_reducible exact aQ (ZR.o _ (ZW.below (aM _ _)))))))
    exact wG
   ·obtain rfl:p=b:=E;have Zn:=l.trans (w.mono l.size);go_wp2;refine ei 9 ah ah (λ _ _ _ _ _ Zp=>Zp) ?_;refine dY ?_;repeat (first | go_big_quiet_step ((first | (go_at_call 76;first | (with_reducible exact aQ (ZV.o _ (r.below (aM _ _)))) | (with_reducible exact aQ (ZR.o _ (ZW.below (aM _ _))))) | (go_at_call 77;(with_reducible exact aQ (Zs.o _))))) | quiet_step ((first | (go_at_call 76;first | (with_reducible exact aQ (ZV.o _ (r.below (aM _ _)))) | (with_reducible exact aQ (ZR.o _ (ZW.below (aM _ _))))) | (go_at_call 77;(with_reducible exact aQ (Zs.o _))))))
    refine dn ?_;refine dg ?_;intro Y5 x;refine l3 ?_;intro e f c d;have Zc:=au Zn x;clear x;go_wp2;refine aK (v:=bz j.num j.den j.ok) (by simp[aJ,results31,go_sem,c,d,e,f]) I ⟨?_,?_⟩
    ·rfl
    ·exact aD
theorem En (g e:F) (q v:aG) (m r b C:J) (n o:ac) (a:af) (Z8:an a q m n) (Z6:an a v b o):
  aC 34 #[am g q m r,am e v b C] a (aw (iG g n e o)):=by
 have X:Below a.heap.size a ((a.alloc (al #[M g,aa q m r] 29)).alloc (al #[M e,aa v b C] 29)):=aD;cases w:cJ g n e o
 ·have x:U (iG g n e o=ak):=by rw[U];unfold iG;rw[w];rfl
  rw[x.o];go_enter func34,ntmps34;go_wp2;refine wp_loop_rounds 1 ?_;rw[rounds_succ];go_wp2_with fail;refine jg ?_;rw[w];rintro ZV j ⟨rfl,i⟩;refine fg ?_;intro s t;have ZJ:=aS i (a.heap.size+1) 0 (M e);have ZI:=aS i (a.heap.size+1) 1 (aa v b C);refine e5 ?_;intro l;refine k8 ?_;intro Z7 Z5;clear i;go_wp2_with fail;refine(oy _ _ _ _ _ _ _ _ _ _ _ Z7 Z5).mono ?_;rw[w];rintro ZV Zb ⟨rfl,G⟩;have u:=au l G;exact lV
 ·obtain⟨A,V,Ze,Y⟩:=fN w;have Zp:=ab A;have Zo:=ab V;clear Ze;refine ib ?_;intro Q Z9 T;subst T;obtain⟨_,_,Zi,L,ZX,Z2,_⟩:=cv A;obtain⟨_,_,_,R,ZW,ZY,_⟩:=cv V;refine iX ?_;intro ZZ Z1 K N P;refine yX ?_;intro f k H S ZX Z2 ZW ZY W Z4 x;have Zn:U (∀d,an d q b n->∀c,c<b->aC 85 #[am g q b r,M (c:F)] d (M (a9 (bm (bU c)) n b))):= λ d y c ZA=>ng g c _ _ _ n d y E K N.o
  have Zm:U (∀d,an d v b o->∀c,c<b->aC 85 #[am e v b C,M (c:F)] d (M (a9 (bm (bU c)) o b))):= λ d y c ZA=>ng e c _ _ _ o d y E K P.o
  have ZR:U (∀d,an d q b n->aC 76 #[am g q b r] d (M f)):= λ d y=>by rw[<- H.o];exact hn _ _ _ _ n d y Zp.o
  have ZQ:U (∀d,an d v b o->aC 76 #[am e v b C] d (M k)):= λ d y=>by rw[<- S.o];exact hn _ _ _ _ o d y Zo.o
  have ZC:U (∀d,an d q b n->an d v b o->aC 80 #[am g q b r,am e v b C] d (aw ae)):= λ d y Zh=>by rw[<- w];exact oy _ _ _ _ _ _ _ _ _ _ _ y Zh
  have Zl:=ab W;have Zk:=ab Z4;clear Y L R Zi A V W Z4 w x;go_enter func34,ntmps34;go_wp2;obtain⟨j,Z3⟩:∃Zj,(a.alloc (al #[M g,aa q b r] 29)).alloc (al #[M e,aa v b C] 29)=Zj:=⟨_,I⟩;have Zu: j.cell? (ad a.heap.size 0)=Z (M g):=by rw[<- Z3];simp
  have Zt: j.cell? (ad a.heap.size 1)=Z (aa q b r):=by rw[<- Z3];simp
  have Zs: j.cell? (ad (a.heap.size+1) 0)=Z (M e):=by rw[<- Z3];simp
  have Zr: j.cell? (ad (a.heap.size+1) 1)=Z (aa v b C):=by rw[<- Z3];simp
  have l:ap a j:=by rw[<- Z3];exact X
  have Z7:=Z8.below l;have Z5:=Z6.below l;rw[Z3];clear Z3 X;go_loopw [5] (λ ZH wr=>∃p:J,p<=b /\ ZH=M p /\ U (∀c,c<p->g4 n o f k b c=ae) /\ ap j wr) (λ ZH _=>b-(intOf ZH).toNat)
  case atStart=>exact⟨0,E,I,λ c ZP=>E,Below.refl _ _⟩
  case round =>
   obtain⟨p,Z0,rfl,ZD,D⟩:=hrel;have s:=ag D Zu;have t:=ag D Zt;have ZJ:=ag D Zs;have ZI:=ag D Zr;have Y9:(0:F)<=(p:F):=E;go_wp2_with fail;refine(ZC.o _ (Z7.below D) (Z5.below D)).mono ?_;rintro ZV Zb ⟨rfl,G⟩;have u:=au D G;replace s:=ag G s;replace t:=ag G t;replace ZJ:=ag G ZJ;replace ZI:=ag G ZI;have z:=Z7.below u;have B:=Z5.below u;have ZB:=l.trans (u.mono l.size);clear G D;by_cases ZM:p<b
   ·have Y8:(p:F)<(b:F):=E;have Zy:=Zl.o p;have Zx:=Zk.o p;have Zd:=lw Zy.1 Zy.2 E ZY;have Zc:=lw Zx.1 Zx.2 E Z2;have ZU:U (g4 n o f k b p= !decide (a9 (bm (bU p)) o b*f<a9 (bm (bU p)) n b*k)):=rfl;have ZT:=ab (λ d ZP=>Zn.o d ZP p ZM);have ZS:=ab (λ d ZP=>Zm.o d ZP p ZM);generalize a9 (bm (bU p)) n b=ZF at *;generalize a9 (bm (bU p)) o b=ZE at *;obtain⟨Zw,ZL⟩:∃ZG,ZF*k=ZG:=⟨_,I⟩;obtain⟨Zv,ZK⟩:∃ZG,ZE*f=ZG:=⟨_,I⟩;rw[ZL] at Zd ZU;rw[ZK] at Zc ZU;have Y6:IntKind.i64.wrap (ZF*k)=Zw:=by rw[ZL,bV];omega
    have Y5:IntKind.i64.wrap (ZE*f)=Zv:=by rw[ZK,bV];omega
    clear ZL ZK;by_cases Zz:Zv<Zw
    ·have Zq:U (bq (g4 n o f k b) b=ak):=jn (k:=p) ZM (by rw[ZU.o,fW Zz];rfl);go_wp2;refine cC ?_;repeat (first | go_big_quiet_step ((first | (go_at_call 85;first | (with_reducible exact aQ (ZT.o _ (z.below (aM _ _)))) | (with_reducible exact aQ (ZS.o _ (B.below (aM _ _))))) | (go_at_call 76;first | (with_reducible exact aQ (ZR.o _ (z.below (aM _ _)))) | (with_reducible exact aQ (ZQ.o _ (B.below (aM _ _))))))) | quiet_step ((first | (go_at_call 85;first | (with_reducible exact aQ (ZT.o _ (z.below (aM _ _)))) | (with_reducible exact aQ (ZS.o _ (B.below (aM _ _))))) | (go_at_call 76;first | (with_reducible exact aQ (ZR.o _ (z.below (aM _ _)))) | (with_reducible exact aQ (ZQ.o _ (B.below (aM _ _))))))))
     refine dn ?_;refine dg ?_;intro Za ZN;go_wp2;go_ret;exact⟨by rw[Zq.o];rfl,au ZB ZN⟩
    ·have ZO:U (∀c,c<p+1->g4 n o f k b c=ae):= λ c ZA=>by
      by_cases ZV:c=p
      ·subst ZV;rw[ZU.o,iP Zz];rfl
      ·exact ZD.o c E
     go_wp2
     refine gj ah ah ?_
     repeat (first | go_big_quiet_step ((first | (go_at_call 85;first | (with_reducible exact aQ (ZT.o _ (z.below (aM _ _)))) | (with_reducible exact aQ (ZS.o _ (B.below (aM _ _))))) | (go_at_call 76;first | (with_reducible exact aQ (ZR.o _ (z.below (aM _ _)))) | (with_reducible exact aQ (ZQ.o _ (B.below (aM _ _))))))) | quiet_step ((first | (go_at_call 85;first | (with_reducible exact aQ (ZT.o _ (z.below (aM _ _)))) | (with_reducible exact aQ (ZS.o _ (B.below (aM _ _))))) | (go_at_call 76;first | (with_reducible exact aQ (ZR.o _ (z.below (aM _ _)))) | (with_reducible exact aQ (ZQ.o _ (B.below (aM _ _))))))))
     refine dn ?_
     refine dg ?_
     intro Za ZN
     have Zg:=au u ZN
     go_wp2
     go_roundw
     case rel=>exact⟨p+1,E,by go_num,ZO,Zg⟩
     case measure=>simp[intOf];omega
   ·obtain rfl:p=b:=E;have ZO:U (bq (g4 n o f k p) p=ae):=(cp _ _).2 ZD.o;go_wp2_with fail;refine(ZC.o _ z B).mono ?_;rintro ZV Y7 ⟨rfl,Zf⟩;go_wp2;go_ret;exact⟨by rw[ZO.o];rfl,au ZB Zf⟩
theorem bn {a b:ax} (c:a≠b):((ai a).toList==b)=ak:=by rw[dx,mG,cE];exact c
def dl (a:ac) (c:ax):ac :=
 if c=[105,109,112,108,105,101,100] then cQ (λ b=>a9 (bm (cy b)) a a.length) a.length
 else if c=[98,101,108,105,101,118,101,100] then cQ (λ b=>a9 (bm (cy b)) a a.length-O a 0) a.length
 else if c=[112,111,115,115,105,98,108,101] then cQ (λ b=>a9 (bm (bU b)) a a.length) a.length
 else if c=[99,111,109,109,111,110] then cQ (λ b=>a9 (bm (fe b)) a a.length) a.length
 else []
theorem F4 (d:F) (c:J) (f:aG) (a j:J) (b:ac) (i:af) (k:an i f a b) (o:aI d b=ae) (N:c<aH d):
  aC 144 #[am d f a j,M c] i (M (a9 (bm (cy c)) b a-O b 0)):=by
 obtain⟨s,G,x,e,_⟩:=bt o;have R:=k.len;have z:=b8 s;have D:bi 0 ((aH d:F)-1) c=ae:=bM.2 E;have m:U (∀X,X<a->0<=O b X /\ O b X<=1000000):= λ X P=>e X E
 have H:a<=16:=E;have r:0<a:=E;have A:c<16:=E;have y:=i3 (cy c) b a m.o a aZ;have Q:=m.o 0 r;have l:U (∀g,an g f a b->aC 252 #[am d f a j,M (c:F)] g (M (a9 (bm (cy c)) b a))):= λ g w=>tr d c f a j b g w A H m.o
 have u:=ab o;obtain⟨p,q⟩:∃p,a9 (bm (cy c)) b a=p:=⟨_,I⟩;rw[q] at y l ⊢;clear e G x o q z;go_enter func144,ntmps144;go_wp2_with fail;refine(cn _ _ _ _ b _ (k.below aD)).mono ?_;rw[u.o];rintro v K ⟨rfl,e⟩;have T:=aS e i.heap.size 0 (M d);have V:=aS e i.heap.size 1 (aa f a j);have n:ap i K:=bJ e;clear e;obtain⟨L,S,rfl,_,_,C⟩:=k.at n r;rw[Nat.add_zero] at C;have t:=k.below n;go_wp2_with fail;refine(fh d c _ s).mono ?_;rw[D];rintro v g ⟨rfl,rfl⟩;go_wp2;refine gj ah ah ?_;repeat (first | go_big_quiet_step ((go_at_call 252;(with_reducible exact aQ (l.o _ (t.below (aM _ _)))))) | quiet_step ((go_at_call 252;(with_reducible exact aQ (l.o _ (t.below (aM _ _)))))))
 refine dn ?_;refine dg ?_;intro W B;go_wp2;go_ret;exact⟨I,au n B⟩
theorem Lp (c:bg ay) (a:af):c9 prog (b0 143 c) a=.ok (.enter 143 c) a:=by
 have g:(Tryz.f143.name== "runtime.NumGoroutine")=ak:=ah;have b:Tryz.f143.body.isNone=ak:=ah;have d:¬Tryz.f143.name= "runtime.NumGoroutine" :=by simpa using g
 have e:¬Tryz.f143.body=aj:=by intro f;rw[f] at b;simp at b
 simp only[b0,eC,run_program,ex,func143,cR,eB,aF d,aF e,ey]
theorem Lq (c:bg ay) (a:af):c9 prog (b0 144 c) a=.ok (.enter 144 c) a:=by
 have g:(Tryz.f144.name== "runtime.NumGoroutine")=ak:=ah;have b:Tryz.f144.body.isNone=ak:=ah;have d:¬Tryz.f144.name= "runtime.NumGoroutine" :=by simpa using g
 have e:¬Tryz.f144.body=aj:=by intro f;rw[f] at b;simp at b
 simp only[b0,eC,run_program,ex,func144,cR,eB,aF d,aF e,ey]
theorem Lr (c:bg ay) (a:af):c9 prog (b0 145 c) a=.ok (.enter 145 c) a:=by
 have g:(Tryz.f145.name== "runtime.NumGoroutine")=ak:=ah;have b:Tryz.f145.body.isNone=ak:=ah;have d:¬Tryz.f145.name= "runtime.NumGoroutine" :=by simpa using g
 have e:¬Tryz.f145.body=aj:=by intro f;rw[f] at b;simp at b
 simp only[b0,eC,run_program,ex,func145,cR,eB,aF d,aF e,ey]
theorem F5 (p:F) (r:aG) (O H:J) (o:ac) (a:af) (A:an a r O o) (L:aI p o=ae):
  db 52 #[am p r O H,aE (aN #[105,109,112,108,105,101,100])] a (dl o [105,109,112,108,105,101,100]):=by
 obtain⟨Z1,Z4,Z5,Z0,ZX,ZW,_⟩:=bt L;obtain rfl:O=o.length:=A.len.symm;obtain⟨c,u⟩:∃c,o.length=c:=⟨_,I⟩;rw[u] at A Z5;have Z8:U (c=aH p):=by show c=aH p;omega
 obtain⟨g,Q⟩:∃g:J->F,U ((λ Z6=>a9 (bm (cy Z6)) o c)=g):=⟨_,I⟩;have Z:U (∀b,a9 (bm (cy b)) o c=g b):= λ b=>by rw[<- Q.o]
 have Y:U (dl o [105,109,112,108,105,101,100]=cQ g c):=by rw[U,<- Q.o,<- u];rfl
 rw[Y.o,u];have S:=ab L;clear Z4 Z0 u L Z1 ZX ZW;have ZV:=Lp;go_enter func52,ntmps52;go_wp2_with fail;refine(cn _ _ _ _ o _ (A.below aD)).mono ?_;rw[S.o];rintro q i ⟨rfl,x⟩;have K:=aS x a.heap.size 0 (M p);have W:=aS x a.heap.size 1 (aa r c H);have X:ap a i:=bJ x;have ZZ:a.heap.size<i.heap.size:=b6 K;clear x;go_wp2;obtain⟨j,n⟩:∃Z7,i.alloc (al #[] 3)=Z7:=⟨_,I⟩;have v:ap i j:=by rw[<- n];exact az _ _
 have s:=ag v K;have t:=ag v W;obtain⟨e,m⟩:∃e,i.heap.size=e:=⟨_,I⟩;have Z2:av j e (aq e 0 0) (cQ g 0):=by
  exact pw
 have l:=au X v;have ZQ:e<j.heap.size:=by rw[<- n,<- m];simp
 rw[n,m];rw[m] at ZZ;clear n v K W m X;go_loopw [6,7,24] (λ ZY _ N wr=>∃(b:J) (P:ay),b<=c /\ N=M b /\ ZY=P /\ av wr e P (cQ g b) /\ Below e j wr /\ j.heap.size<=wr.heap.size) (λ _ _ N _=>c-(intOf N).toNat)
 case atStart=>exact⟨0,_,E,I,I,Z2,Below.refl _ _,bL _⟩
 case round =>
  obtain⟨b,P,ZS,rfl,rfl,G,y,ZP⟩:=hrel;refine iy ?_;intro f w z;by_cases Z3:b<c
  ·have D:=ab (gn g b);have ZR:(b:F)<(c:F):=E;have B:=ab (Z.o b);go_wp2_with fail;refine(Fk p b r c H o _ (A.below f) S.o (by rw[<- Z8.o];exact Z3)).mono ?_;exact pv
  ·exact px
theorem Fv (p:F) (r:aG) (P H:J) (o:ac) (a:af) (A:an a r P o) (L:aI p o=ae):
  db 52 #[am p r P H,aE (aN #[98,101,108,105,101,118,101,100])] a (dl o [98,101,108,105,101,118,101,100]):=by
 obtain⟨Z0,Z3,Z4,ZZ,ZW,ZV,_⟩:=bt L;obtain rfl:P=o.length:=A.len.symm;obtain⟨c,u⟩:∃c,o.length=c:=⟨_,I⟩;rw[u] at A Z4;have Z7:U (c=aH p):=by show c=aH p;omega
 obtain⟨g,S⟩:∃g:J->F,U ((λ Z5=>a9 (bm (cy Z5)) o c-O o 0)=g):=⟨_,I⟩;have Z8:U (∀b,a9 (bm (cy b)) o c-O o 0=g b):= λ b=>by rw[<- S.o]
 have Z:U (dl o [98,101,108,105,101,118,101,100]=cQ g c):=by rw[U,<- S.o,<- u];rfl
 rw[Z.o,u];have W:=ab L;clear Z3 ZZ u L Z0 ZW ZV;have ZS:=Lq;go_enter func52,ntmps52;go_wp2_with fail;refine(cn _ _ _ _ o _ (A.below aD)).mono ?_;rw[W.o];rintro q i ⟨rfl,x⟩;have K:=aS x a.heap.size 0 (M p);have X:=aS x a.heap.size 1 (aa r c H);have Y:ap a i:=bJ x;have ZY:a.heap.size<i.heap.size:=b6 K;clear x;go_wp2;obtain⟨j,n⟩:∃Z6,i.alloc (al #[] 3)=Z6:=⟨_,I⟩;have v:ap i j:=by rw[<- n];exact az _ _
 have s:=ag v K;have t:=ag v X;obtain⟨e,m⟩:∃e,i.heap.size=e:=⟨_,I⟩;have Z1:av j e (aq e 0 0) (cQ g 0):=by
  exact pw
 have l:=au Y v;have ZP:e<j.heap.size:=by rw[<- n,<- m];simp
 rw[n,m];rw[m] at ZY;clear n v K X m Y;go_loopw [6,7,24] (λ ZX _ N wr=>∃(b:J) (Q:ay),b<=c /\ N=M b /\ ZX=Q /\ av wr e Q (cQ g b) /\ Below e j wr /\ j.heap.size<=wr.heap.size) (λ _ _ N _=>c-(intOf N).toNat)
 case atStart=>exact⟨0,_,E,I,I,Z1,Below.refl _ _,bL _⟩
 case round =>
  obtain⟨b,Q,ZR,rfl,rfl,G,y,ZO⟩:=hrel;refine iy ?_;intro f w z;by_cases Z2:b<c
  ·have D:=ab (gn g b);have ZQ:(b:F)<(c:F):=E;have B:=ab (Z8.o b);go_wp2_with fail;refine(F4 p b r c H o _ (A.below f) W.o (by rw[<- Z7.o];exact Z2)).mono ?_;exact pv
  ·exact px
theorem Fw (p:F) (r:aG) (O H:J) (o:ac) (a:af) (A:an a r O o) (L:aI p o=ae):
  db 52 #[am p r O H,aE (aN #[112,111,115,115,105,98,108,101])] a (dl o [112,111,115,115,105,98,108,101]):=by
 obtain⟨Z1,Z4,Z5,Z0,ZX,ZW,_⟩:=bt L;obtain rfl:O=o.length:=A.len.symm;obtain⟨c,u⟩:∃c,o.length=c:=⟨_,I⟩;rw[u] at A Z5;have Z8:U (c=aH p):=by show c=aH p;omega
 obtain⟨g,Q⟩:∃g:J->F,U ((λ Z6=>a9 (bm (bU Z6)) o c)=g):=⟨_,I⟩;have Z:U (∀b,a9 (bm (bU b)) o c=g b):= λ b=>by rw[<- Q.o]
 have Y:U (dl o [112,111,115,115,105,98,108,101]=cQ g c):=by rw[U,<- Q.o,<- u];rfl
 rw[Y.o,u];have S:=ab L;clear Z4 Z0 u L Z1 ZX ZW;have ZV:=Lr;go_enter func52,ntmps52;go_wp2_with fail;refine(cn _ _ _ _ o _ (A.below aD)).mono ?_;rw[S.o];rintro q i ⟨rfl,x⟩;have K:=aS x a.heap.size 0 (M p);have W:=aS x a.heap.size 1 (aa r c H);have X:ap a i:=bJ x;have ZZ:a.heap.size<i.heap.size:=b6 K;clear x;go_wp2;obtain⟨j,n⟩:∃Z7,i.alloc (al #[] 3)=Z7:=⟨_,I⟩;have v:ap i j:=by rw[<- n];exact az _ _
 have s:=ag v K;have t:=ag v W;obtain⟨e,m⟩:∃e,i.heap.size=e:=⟨_,I⟩;have Z2:av j e (aq e 0 0) (cQ g 0):=by
  exact pw
 have l:=au X v;have ZQ:e<j.heap.size:=by rw[<- n,<- m];simp
 rw[n,m];rw[m] at ZZ;clear n v K W m X;go_loopw [6,7,24] (λ ZY _ N wr=>∃(b:J) (P:ay),b<=c /\ N=M b /\ ZY=P /\ av wr e P (cQ g b) /\ Below e j wr /\ j.heap.size<=wr.heap.size) (λ _ _ N _=>c-(intOf N).toNat)
 case atStart=>exact⟨0,_,E,I,I,Z2,Below.refl _ _,bL _⟩
 case round =>
  obtain⟨b,P,ZS,rfl,rfl,G,y,ZP⟩:=hrel;refine iy ?_;intro f w z;by_cases Z3:b<c
  ·have D:=ab (gn g b);have ZR:(b:F)<(c:F):=E;have B:=ab (Z.o b);go_wp2_with fail;refine(E7 p b r c H o _ (A.below f) S.o (by rw[<- Z8.o];exact Z3)).mono ?_;exact pv
  ·exact px
theorem Jd (l:F) (x:aG) (k o:J) (b:ac) (a:ax) (g:af) (q:an g x k b) (j:aI l b=ae)
  (e:a≠[105,109,112,108,105,101,100])
  (c:a≠[98,101,108,105,101,118,101,100])
  (f:a≠[112,111,115,115,105,98,108,101])
  (d:a≠[99,111,109,109,111,110])
  :db 52 #[am l x k o,aE (ai a)] g (dl b a):=by
 have n:U (dl b a=[]):=by rw[U];unfold dl;rw[aF e,aF c,aF f,aF d]
 rw[n.o];have v:=bn e;have t:=bn c;have w:=bn f;have u:=bn d;have m:=ab j;clear e c f d j;go_enter func52,ntmps52;go_wp2_with fail;refine(cn _ _ _ _ b _ (q.below aD)).mono ?_;rw[m.o];rintro s r ⟨rfl,i⟩;have p:ap g r:=bJ i;clear i;go_wp2;go_ret;exact⟨⟨_,I,av.nil _ _⟩,p⟩
theorem If (e:F) (b:aG) (d g:J) (a:ac) (c:ax) (f:af) (i:an f b d a) (h:aI e a=ae):
  db 52 #[am e b d g,aE (ai c)] f (dl a c):=by
 by_cases l:c=[105,109,112,108,105,101,100]
 ·subst l;exact F5 e b d g a f i h
 by_cases j:c=[98,101,108,105,101,118,101,100]
 ·subst j;exact Fv e b d g a f i h
 by_cases m:c=[112,111,115,115,105,98,108,101]
 ·subst m;exact Fw e b d g a f i h
 by_cases k:c=[99,111,109,109,111,110]
 ·subst k;have n:dl a [99,111,109,109,111,110]=u4 a:=rfl;rw[n];exact FE e b d g a f i h
 exact Jd e b d g a c f i h l j m k
theorem Ef (g:F) (e:aG) (Y m:J) (p:ac) (a:af) (n:an a e Y p) (W:aI g p=ae):
  db 42 #[am g e Y m,aE (aN #[105,109,112,108,105,101,100])] a (dl p [105,109,112,108,105,101,100]):=by
 obtain⟨Z4,ZW,Z5,Z3,ZT,ZS,_⟩:=bt W;have ZX:=b8 Z4;obtain rfl:Y=p.length:=n.len.symm;obtain⟨c,H⟩:∃c,p.length=c:=⟨_,I⟩;rw[H] at n Z5;have ZO:0<c:=E;have Z6:U (∀b,b<c->0<=O p b /\ O p b<=1000000):=by show ∀b,b<c->_;rw[<- H];exact Z3
 obtain⟨k,Z8⟩:∃k:J->F,U ((λ ZY=>a9 (bm (cy ZY)) p c)=k):=⟨_,I⟩;have P:U (∀b,a9 (bm (cy b)) p c=k b):= λ b=>by rw[<- Z8.o]
 have Z0:U (dl p [105,109,112,108,105,101,100]=cQ k c):=by rw[U,<- Z8.o,<- H];rfl
 have L:U (∀b d,b<c->an d e c p->aC 96 #[am g e c m,M (b:F)] d (M (a9 (bm (cy b)) p c))):= λ b d V Q=>tx g b _ _ _ p d Q E Z5 Z6.o
 have ZP:U (∀b,0<=a9 (bm (cy b)) p c /\ a9 (bm (cy b)) p c<=16000000):= λ b=>by have:=i3 (cy b) p c Z6.o c aZ;omega
 rw[Z0.o];have A:U (∀d,an d e c p->aC 63 #[am g e c m] d (aw ae)):= λ d Q=>by rw[<- W];exact dA _ _ _ _ p d Q
 rw[H];clear ZW Z3 H W Z4 ZT ZS ZX;go_enter func42,ntmps42;go_wp2;obtain⟨j,i⟩:∃ZZ,(a.alloc (al #[M g,aa e c m] 29)).alloc (al #[] 3)=ZZ:=⟨_,I⟩;have s: j.cell? (ad a.heap.size 0)=Z (M g):=by rw[<- i];simp
 have t: j.cell? (ad a.heap.size 1)=Z (aa e c m):=by rw[<- i];simp
 have ZV:av j (a.heap.size+1) (aq (a.heap.size+1) 0 0) []:=by
  exact oc
 have l:ap a j:=by rw[<- i];exact aD
 have ZN:a.heap.size+1<j.heap.size:=by rw[<- i];simp
 rw[i];clear i;go_loopw [5,6] (λ ZU X wr=>∃(b:J) (B:ay),b<=c /\ X=M b /\ ZU=B /\ av wr (a.heap.size+1) B (cQ k b) /\ Below (a.heap.size+1) j wr /\ j.heap.size<=wr.heap.size) (λ _ X _=>c-(intOf X).toNat)
 case atStart=>exact⟨0,_,E,I,I,ZV,Below.refl _ _,bL _⟩
 case round =>
  exact so
theorem Eo (g:F) (e:aG) (W m:J) (p:ac) (a:af) (n:an a e W p) (Q:aI g p=ae):
  db 42 #[am g e W m,aE (aN #[98,101,108,105,101,118,101,100])] a (dl p [98,101,108,105,101,118,101,100]):=by
 obtain⟨Z5,ZP,Z7,Z3,ZL,ZJ,_⟩:=bt Q;have ZS:=b8 Z5;obtain rfl:W=p.length:=n.len.symm;obtain⟨c,K⟩:∃c,p.length=c:=⟨_,I⟩;rw[K] at n Z7;have Z6:0<c:=E;have P:U (∀b,b<c->0<=O p b /\ O p b<=1000000):=by show ∀b,b<c->_;rw[<- K];exact Z3
 obtain⟨B,Z8⟩:∃B:J->F,U ((λ ZU=>a9 (bm (cy ZU)) p c-O p 0)=B):=⟨_,I⟩;have ZZ:U (∀b,a9 (bm (cy b)) p c-O p 0=B b):= λ b=>by rw[<- Z8.o]
 have Z0:U (dl p [98,101,108,105,101,118,101,100]=cQ B c):=by rw[U,<- Z8.o,<- K];rfl
 have Z1:U (∀b d,b<c->an d e c p->aC 96 #[am g e c m,M (b:F)] d (M (a9 (bm (cy b)) p c))):= λ b d ZQ H=>tx g b _ _ _ p d H E Z7 P.o
 have Z2:U (∀b,0<=a9 (bm (cy b)) p c /\ a9 (bm (cy b)) p c<=16000000):= λ b=>by have:=i3 (cy b) p c P.o c aZ;omega
 rw[Z0.o];have A:U (∀d,an d e c p->aC 63 #[am g e c m] d (aw ae)):= λ d H=>by rw[<- Q];exact dA _ _ _ _ p d H
 rw[K];clear ZP Z3 K Q Z5 ZL ZJ ZS;go_enter func42,ntmps42;go_wp2;obtain⟨j,i⟩:∃ZV,(a.alloc (al #[M g,aa e c m] 29)).alloc (al #[] 3)=ZV:=⟨_,I⟩;have s: j.cell? (ad a.heap.size 0)=Z (M g):=by rw[<- i];simp
 have t: j.cell? (ad a.heap.size 1)=Z (aa e c m):=by rw[<- i];simp
 have ZN:av j (a.heap.size+1) (aq (a.heap.size+1) 0 0) []:=by
  exact oc
 have l:ap a j:=by rw[<- i];exact aD
 have ZB:a.heap.size+1<j.heap.size:=by rw[<- i];simp
 rw[i];clear i;go_loopw [5,6] (λ ZM V wr=>∃(b:J) (X:ay),b<=c /\ V=M b /\ ZM=X /\ av wr (a.heap.size+1) X (cQ B b) /\ Below (a.heap.size+1) j wr /\ j.heap.size<=wr.heap.size) (λ _ V _=>c-(intOf V).toNat)
 case atStart=>exact⟨0,_,E,I,I,ZN,Below.refl _ _,bL _⟩
 case round =>
  obtain⟨b,X,ZQ,rfl,rfl,v,y,Zz⟩:=hrel;refine iy ?_;intro f w z;by_cases ZO:b<c
  ·have ZE:(0:F)<=(b:F):=E;have ZD:(b:F)<(c:F):=E;go_wp2_with fail;refine oj ?_;intro x o q u r w z D;clear v y o;have ZX:=ab (gn B b);have ZY:=ab (ZZ.o b);obtain⟨ZG,Zy,rfl,_,_,ZR⟩:=n.at r Z6;rw[Nat.add_zero] at ZR;have ZC:=P.o 0 Z6;have ZF:=Z2.o b;have Y:=ab (λ d H=>Z1.o b d ZO H);have Z4:=n.below r;generalize a9 (bm (cy b)) p c=ZW at *;go_wp2;refine l7 9 _ _ ah ah I I I (λ _ _ _ _ _ ZT=>ZT) ⟨_,I⟩ ?_;refine dY ?_;repeat (first | go_big_quiet_step ((go_at_call 96;(with_reducible exact aQ (Y.o _ (Z4.below (aM _ _)))))) | quiet_step ((go_at_call 96;(with_reducible exact aQ (Y.o _ (Z4.below (aM _ _)))))))
   refine et ?_;intro L k;have N:=q.below k;have ZA:=k.size;have S:=u.trans (k.mono E);clear q u k;go_wp2_with (at_builtin;refine iz I _ _ I (a.heap.size+1) _ _ b ZX.o a6 (N.below (az L _)) _ _ (ZW-O p 0) a6 ar E (by simp;omega) ?_;intro ZH ZI d Z9 C);refine sK ?_;intro R;refine pY ?_;intro T;clear C N f r S;rw[ZY.o] at Z9;exact rQ
  ·exact pL
theorem Ep (g:F) (e:aG) (Y m:J) (p:ac) (a:af) (n:an a e Y p) (W:aI g p=ae):
  db 42 #[am g e Y m,aE (aN #[112,111,115,115,105,98,108,101])] a (dl p [112,111,115,115,105,98,108,101]):=by
 obtain⟨Z4,ZW,Z5,Z3,ZT,ZS,_⟩:=bt W;have ZX:=b8 Z4;obtain rfl:Y=p.length:=n.len.symm;obtain⟨c,H⟩:∃c,p.length=c:=⟨_,I⟩;rw[H] at n Z5;have ZO:0<c:=E;have Z6:U (∀b,b<c->0<=O p b /\ O p b<=1000000):=by show ∀b,b<c->_;rw[<- H];exact Z3
 obtain⟨k,Z8⟩:∃k:J->F,U ((λ ZY=>a9 (bm (bU ZY)) p c)=k):=⟨_,I⟩;have P:U (∀b,a9 (bm (bU b)) p c=k b):= λ b=>by rw[<- Z8.o]
 have Z0:U (dl p [112,111,115,115,105,98,108,101]=cQ k c):=by rw[U,<- Z8.o,<- H];rfl
 have L:U (∀b d,b<c->an d e c p->aC 85 #[am g e c m,M (b:F)] d (M (a9 (bm (bU b)) p c))):= λ b d V Q=>ng g b _ _ _ p d Q E Z5 Z6.o
 have ZP:U (∀b,0<=a9 (bm (bU b)) p c /\ a9 (bm (bU b)) p c<=16000000):= λ b=>by have:=i3 (bU b) p c Z6.o c aZ;omega
 rw[Z0.o];have A:U (∀d,an d e c p->aC 63 #[am g e c m] d (aw ae)):= λ d Q=>by rw[<- W];exact dA _ _ _ _ p d Q
 rw[H];clear ZW Z3 H W Z4 ZT ZS ZX;go_enter func42,ntmps42;go_wp2;obtain⟨j,i⟩:∃ZZ,(a.alloc (al #[M g,aa e c m] 29)).alloc (al #[] 3)=ZZ:=⟨_,I⟩;have s: j.cell? (ad a.heap.size 0)=Z (M g):=by rw[<- i];simp
 have t: j.cell? (ad a.heap.size 1)=Z (aa e c m):=by rw[<- i];simp
 have ZV:av j (a.heap.size+1) (aq (a.heap.size+1) 0 0) []:=by
  exact oc
 have l:ap a j:=by rw[<- i];exact aD
 have ZN:a.heap.size+1<j.heap.size:=by rw[<- i];simp
 rw[i];clear i;go_loopw [5,6] (λ ZU X wr=>∃(b:J) (B:ay),b<=c /\ X=M b /\ ZU=B /\ av wr (a.heap.size+1) B (cQ k b) /\ Below (a.heap.size+1) j wr /\ j.heap.size<=wr.heap.size) (λ _ X _=>c-(intOf X).toNat)
 case atStart=>exact⟨0,_,E,I,I,ZV,Below.refl _ _,bL _⟩
 case round =>
  exact so
theorem EA (g:F) (e:aG) (Y m:J) (p:ac) (a:af) (n:an a e Y p) (W:aI g p=ae):
  db 42 #[am g e Y m,aE (aN #[99,111,109,109,111,110])] a (dl p [99,111,109,109,111,110]):=by
 obtain⟨Z4,ZW,Z5,Z3,ZT,ZS,_⟩:=bt W;have ZX:=b8 Z4;obtain rfl:Y=p.length:=n.len.symm;obtain⟨c,H⟩:∃c,p.length=c:=⟨_,I⟩;rw[H] at n Z5;have ZO:0<c:=E;have Z6:U (∀b,b<c->0<=O p b /\ O p b<=1000000):=by show ∀b,b<c->_;rw[<- H];exact Z3
 obtain⟨k,Z8⟩:∃k:J->F,U ((λ ZY=>a9 (bm (fe ZY)) p c)=k):=⟨_,I⟩;have P:U (∀b,a9 (bm (fe b)) p c=k b):= λ b=>by rw[<- Z8.o]
 have Z0:U (dl p [99,111,109,109,111,110]=cQ k c):=by rw[U,<- Z8.o,<- H];rfl
 have L:U (∀b d,b<c->an d e c p->aC 97 #[am g e c m,M (b:F)] d (M (a9 (bm (fe b)) p c))):= λ b d V Q=>HT g b _ _ _ p d Q E Z5 Z6.o
 have ZP:U (∀b,0<=a9 (bm (fe b)) p c /\ a9 (bm (fe b)) p c<=16000000):= λ b=>by have:=i3 (fe b) p c Z6.o c aZ;omega
 rw[Z0.o];have A:U (∀d,an d e c p->aC 63 #[am g e c m] d (aw ae)):= λ d Q=>by rw[<- W];exact dA _ _ _ _ p d Q
 rw[H];clear ZW Z3 H W Z4 ZT ZS ZX;go_enter func42,ntmps42;go_wp2;obtain⟨j,i⟩:∃ZZ,(a.alloc (al #[M g,aa e c m] 29)).alloc (al #[] 3)=ZZ:=⟨_,I⟩;have s: j.cell? (ad a.heap.size 0)=Z (M g):=by rw[<- i];simp
 have t: j.cell? (ad a.heap.size 1)=Z (aa e c m):=by rw[<- i];simp
 have ZV:av j (a.heap.size+1) (aq (a.heap.size+1) 0 0) []:=by
  exact oc
 have l:ap a j:=by rw[<- i];exact aD
 have ZN:a.heap.size+1<j.heap.size:=by rw[<- i];simp
 rw[i];clear i;go_loopw [5,6] (λ ZU X wr=>∃(b:J) (B:ay),b<=c /\ X=M b /\ ZU=B /\ av wr (a.heap.size+1) B (cQ k b) /\ Below (a.heap.size+1) j wr /\ j.heap.size<=wr.heap.size) (λ _ X _=>c-(intOf X).toNat)
 case atStart=>exact⟨0,_,E,I,I,ZV,Below.refl _ _,bL _⟩
 case round =>
  exact so
theorem FH (g:F) (e:aG) (Q m:J) (d:ac) (j:ax) (K:j≠[105,109,112,108,105,101,100]) (C:j≠[98,101,108,105,101,118,101,100]) (N:j≠[112,111,115,115,105,98,108,101]) (H:j≠[99,111,109,109,111,110]) (a:af) (n:an a e Q d) (L:aI g d=ae):
  db 42 #[am g e Q m,aE (ai j)] a (dl d j):=by
 obtain⟨S,Z8,Y,T,Z5,Z4,_⟩:=bt L;have Z9:=b8 S;obtain rfl:Q=d.length:=n.len.symm;obtain⟨c,B⟩:∃c,d.length=c:=⟨_,I⟩;rw[B] at n Y;have ZY:0<c:=E;have Z3:U (∀b,b<c->0<=O d b /\ O d b<=1000000):=by show ∀b,b<c->_;rw[<- B];exact T
 have V:U (dl d j=[]):=by rw[U];unfold dl;rw[aF K,aF C,aF N,aF H]
 rw[V.o];have ZT:=bn K;have ZV:=bn C;have ZS:=bn N;have ZU:=bn H;clear K C N H;have A:U (∀p,an p e c d->aC 63 #[am g e c m] p (aw ae)):= λ p X=>by rw[<- L];exact dA _ _ _ _ d p X
 rw[B];clear Z8 T B L S Z5 Z4 Z9;go_enter func42,ntmps42;go_wp2;obtain⟨k,i⟩:∃W,(a.alloc (al #[M g,aa e c m] 29)).alloc (al #[] 3)=W:=⟨_,I⟩;have s: k.cell? (ad a.heap.size 0)=Z (M g):=by rw[<- i];simp
 have t: k.cell? (ad a.heap.size 1)=Z (aa e c m):=by rw[<- i];simp
 have Z7:av k (a.heap.size+1) (aq (a.heap.size+1) 0 0) []:=by
  exact oc
 have l:ap a k:=by rw[<- i];exact aD
 have ZX:a.heap.size+1<k.heap.size:=by rw[<- i];simp
 rw[i];clear i;go_loopw [5,6] (λ Z6 P wr=>∃(b:J) (R:ay),b<=c /\ P=M b /\ Z6=R /\ av wr (a.heap.size+1) R (([]:ac)) /\ Below (a.heap.size+1) k wr /\ k.heap.size<=wr.heap.size) (λ _ P _=>c-(intOf P).toNat)
 case atStart=>exact⟨0,_,E,I,I,Z7,Below.refl _ _,bL _⟩
 case round =>
  obtain⟨b,R,Z2,rfl,rfl,v,y,ZW⟩:=hrel;refine iy ?_;intro f w z;by_cases ZZ:b<c
  ·have Z1:(0:F)<=(b:F):=E;have Z0:(b:F)<(c:F):=E;go_wp2_with fail;refine oj ?_;intro x o q u r w z D;clear v y o;go_wp2;go_roundw
   case rel=>exact⟨b+1,_,E,by go_num,I,q,u,E⟩
   case measure=>simp[intOf];omega
  ·exact pL
theorem D0 (e:F) (b:aG) (d g:J) (a:ac) (c:ax) (f:af) (i:an f b d a) (h:aI e a=ae):
  db 42 #[am e b d g,aE (ai c)] f (dl a c):=by
 by_cases l:c=[105,109,112,108,105,101,100]
 ·subst l;exact Ef e b d g a f i h
 by_cases j:c=[98,101,108,105,101,118,101,100]
 ·subst j;exact Eo e b d g a f i h
 by_cases m:c=[112,111,115,115,105,98,108,101]
 ·subst m;exact Ep e b d g a f i h
 by_cases k:c=[99,111,109,109,111,110]
 ·subst k;exact EA e b d g a f i h
 exact FH e b d g a c l j m k f i h
end Go.Proofs.YtkjnhlpccgjfhaaGreatDoor
