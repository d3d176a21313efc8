/- A part of the proof: lemmas (my texts, shortened by a program of mine). -/
import Derived.Test.YtkjnhlpccgjfhaaGreatDoorC28
import Derived.Test.YtkjnhlpccgjfhaaGreatDoorC30
import Derived.Test.YtkjnhlpccgjfhaaGreatDoorC31
set_option linter.all false
set_option maxRecDepth 100000
set_option maxHeartbeats 4000000
namespace Go.Proofs.YtkjnhlpccgjfhaaGreatDoor
open Go.RowKit
open Go.Proofs.Tryz
open Bool renaming and_eq_true->b9,false->ak,not_false->n4,not_true->nY,true->ae,true_and->eo
open Classical renaming propDecidable->Dz
open Go renaming Calls->aY,World->af,bodyPost_ret->aK,results->aJ,wpQuiet_nil->dn
open Go.Ending renaming returned->aV
open Go.IntWalk renaming i64_in->bV
open Go.Lib renaming cut->h4
open Go.Obj renaming cells->al
open Go.Value renaming agg->ba,bool->aw,int->ed,slice->aa,tuple->aL
open Go.World renaming ownsRow_lit->fF
open Int renaming max_eq_left->pk,max_eq_right->nZ
open List renaming append_assoc->lM,cons_append->lO,drop_eq_getElem_cons->mH,getElem_of_mem->kP,length_append->dm,length_cons->jG,length_set->iu,mem_append->nW,replicate->bE,take_add_one->kO
open Nat renaming le_of_lt->h3,le_refl->bL
open Option renaming none->aj,some->Z
open _root_ renaming Bool->a8,Int->F,List->aU,Nat->J,UInt8->b3,absurd->bC,decide_eq_false->iP,decide_eq_true->fW,decide_eq_true_eq->hB,if_neg->aF,if_pos->a7,rfl->I
variable {p q:Prop}
theorem Er (Zw:aG) (ZD Zv:J) (i:ac) (a:af) (ZZ:an a Zw ZD i):
  bp 108 #[aa Zw ZD Zv] a (eM i):=by
 have ZK:Below a.heap.size a (a.alloc (al #[M 0,aa aj 0 0] 29)):=aD;have ZQ:=ZZ.below ZK;cases Z4:ik i
 ·have Z2:U (eM i=bc.no):=by show eM i=bc.no;unfold eM;rw[Z4];rfl
  rw[Z2.o];go_enter func108,ntmps108;go_wp2_with (go_at_call 209;refine(zS _ _ _ i _ ZQ).mono ?_;rw[Z4];rintro n W ⟨rfl,rfl⟩);refine aK (v:=aL #[am 0 aj 0 0,aw ak]) (by simp[aJ,results108,go_sem]) I ⟨?_,?_⟩
  ·exact b1.no _ _
  ·exact aD
 obtain⟨YK,YQ,YR,ZI,YJ⟩:=AP Z4;have ZO:=ab (NQ ZI);have Z2:U (eM i=bh i.length (eW i i.length)):=by show eM i=_;unfold eM;rw[Z4];rfl
 rw[Z2.o];obtain rfl:ZD=i.length:=ZZ.len.symm;have Y2:=ab Z4;have ZM:U (wrap64 (2^i.length)=((2^i.length:J):F)):=gO _ E;have Zy:U (∀b,eW i (b+1)=if i6 i b i.length then (eW i b).set (ew i (O i b) i.length) (O (eW i b) (ew i (O i b) i.length)+(O i b-en i (O i b) i.length)) else eW i b):= λ b=>rfl
 have ZN:U (eW i 0=bE (2^i.length) 0):=rfl;have Zz:=ab ZI;obtain⟨l,Zu⟩:∃l,i.length=l:=⟨_,I⟩;have ZA:U (∀k,ew i k l<2^l):= λ k=>uD i k l
 obtain⟨C,ZJ⟩:∃C,2^l=C:=⟨_,I⟩;have YW:C<=16:=by rw[<- ZJ];exact Nat.pow_le_pow_right (n:=2) aX (show l<=4 from E)
 rw[Zu] at ZZ ZQ Z2 ZM Zy ZN ZO Zz YQ YR YK ⊢;rw[ZJ] at ZM ZN ZA;clear YJ ZI Z4 Zu ZJ Z2;go_enter func108,ntmps108;go_wp2_with fail;refine(zS _ _ _ i _ ZQ).mono ?_;rw[Y2.o];rintro n W ⟨rfl,rfl⟩;obtain⟨Y,X⟩:∃Y,a.alloc (al #[M 0,aa aj 0 0] 29)=Y:=⟨_,I⟩;have c: Y.cell? (ad a.heap.size 0)=Z (M 0):=by rw[<- X];simp
 have d: Y.cell? (ad a.heap.size 1)=Z (aa aj 0 0):=by rw[<- X];simp
 have e: Y.frozen? (ad a.heap.size 0)=ak:=by rw[<- X];simp
 have f: Y.frozen? (ad a.heap.size 1)=ak:=by rw[<- X];simp
 have YI:Y.heap.size=a.heap.size+1:=by rw[<- X];simp
 rw[X] at ZQ ZK ⊢;clear X;have YV:C<=1000000000:=E;have ZF:=ZM.o;go_wp2_with (at_make;refine e6 I _ _ I C _ _ I I ZF ZF YV ?_;intro Zd ZS Z6 Ze;(have G:=ag Z6 c);(have H:=ag Z6 d);(have P:=aB Z6 c e);(have Q:=aB Z6 d f));clear ZF;have V:=au ZK Z6;clear Z6 c d e f;obtain⟨L,o⟩:∃L,a.heap.size+1=L:=⟨_,I⟩;rw[YI] at ZS Ze;rw[o] at ZS Ze ⊢;have YM:av Zd L (aq L C C) (eW i 0):=by rw[ZN.o];exact ZS
 clear ZS;go_loopw [5,6,7,8,9] (λ m Z7 S v YE wr=>∃b:J,b<=l /\ m=M b /\ av wr L (aq L C C) (eW i b) /\ Zd.grownBy wr (Z L)) (λ m _ _ _ _ _=>l-(intOf m).toNat)
 case atStart=>exact⟨0,E,I,YM,hI _ _⟩
 case round =>
  obtain⟨b,Yz,rfl,Zn,o⟩:=hrel;refine mX ?_;intro s;by_cases ZG:b<l
  ·have Zo:=Zz.o b ZG;have R:=ab (Zy.o b);obtain⟨k,ZR⟩:∃k,O i b=k:=⟨_,I⟩;have Zx:=ab ZR;rw[ZR] at Zo R;have Y7:=ab (λ g=>C1 i k Zo.1 g);have Y9:U (∀g,en i k (g+1)=if O i g<k then max (en i k g) (O i g) else en i k g):= λ g=>rfl
   have Y5:U (∀g,i6 i b (g+1)=(i6 i b g&&(decide (b<=g)|| !(O i g==k)))):= λ g=>by rw[<- ZR];rfl
   clear ZR;go_wp2;obtain⟨j,rfl⟩:∃g:af,g=wr:=⟨_,I⟩;go_loopw [6,7,8] (λ Z7 S v YG=>∃g:J,g<=l /\ v=M g /\ Z7=M (en i k g) /\ S=aw (i6 i b g) /\ ap j YG) (λ _ _ v _=>l-(intOf v).toNat)
   case atStart=>exact⟨0,E,I,I,I,Below.refl _ _⟩
   case round =>
    obtain⟨g,Yy,rfl,rfl,rfl,Z3⟩:=hrel;obtain⟨Yq,rfl⟩:∃YF:af,YF=wr:=⟨_,I⟩;by_cases YN:g<l
    ·have ZE:=(ZZ.below s).below Z3;obtain⟨Z7,ZC,rfl,_,_,Z9⟩:=ZE.at bA YN;obtain⟨YD,Yv,ZL,_,_,N⟩:=ZE.at bA ZG;injection ZL with ZL
     injection ZL with YY YX
     subst YY YX;rw[Zx.o] at N;obtain⟨m,Zh⟩:∃m,O i g=m:=⟨_,I⟩;have w:=ab (Y9.o g);have x:=ab (Y5.o g);rw[Zh] at Z9 w x;obtain⟨t,Z0⟩:∃t,en i k g=t:=⟨_,I⟩;obtain⟨S,Zr⟩:∃S,i6 i b g=S:=⟨_,I⟩;rw[Z0] at w ⊢;rw[Zr] at x ⊢;have YP:(0:F)<=(g:F):=E;have YO:(g:F)<(l:F):=E;have YT:(0:F)<=(b:F):=E;have YS:(b:F)<(l:F):=E;clear Z0 Zr Zh ZE;by_cases Zg:m<k
     case pos =>
      have A:=ab Zg;by_cases Zk:t<m
      case pos =>
       have K:=ab Zk;go_wp2_with fail;refine cC ?_;repeat (first | go_big_quiet_step ((fail)) | quiet_step ((fail)))
       refine sQ ?_;intro ZW u Z9 N r;clear u;cases S
       case false =>
        go_wp2_with fail;refine cC ?_;repeat (first | go_big_quiet_step ((fail)) | quiet_step ((fail)))
        refine iY ?_;intro z p;clear r;go_wp2;go_roundw
        case rel=>exact⟨g+1,E,by go_num,by rw[w.o,a7 A.o,nZ (Int.le_of_lt K.o)],by rw[x.o,Bool.false_and],p.o⟩
        case measure=>simp[intOf];omega
       case true =>
        by_cases T:b<=g
        case pos =>
         have Z1:(b:F)<=(g:F):=E;have y:=ab T;go_wp2_with fail;refine cC ?_;repeat (first | go_big_quiet_step ((fail)) | quiet_step ((fail)))
         refine iY ?_;intro z p;clear r;go_wp2;go_roundw
         case rel=>exact⟨g+1,E,by go_num,by rw[w.o,a7 A.o,nZ (Int.le_of_lt K.o)],by rw[x.o,fW y.o,Bool.true_or,eo],p.o⟩
         case measure=>simp[intOf];omega
        case neg =>
         have Z1:¬(b:F)<=(g:F):=E;have y:=ab T;cases q:(m==k)
         case false =>
          have ZY:(m != k)=ae:=by unfold bne;rw[q];rfl
          have B:=ab q;clear q;go_wp2_with fail;refine cC ?_;repeat (first | go_big_quiet_step ((fail)) | quiet_step ((fail)))
          refine iY ?_;intro z p;clear r;go_wp2;go_roundw
          case rel=>exact⟨g+1,E,by go_num,by rw[w.o,a7 A.o,nZ (Int.le_of_lt K.o)],by rw[x.o,iP y.o,B.o,n4,Bool.or_true,eo],p.o⟩
          case measure=>simp[intOf];omega
         case true =>
          have ZY:(m != k)=ak:=by unfold bne;rw[q];rfl
          have B:=ab q;clear q;go_wp2_with fail;refine cC ?_;repeat (first | go_big_quiet_step ((fail)) | quiet_step ((fail)))
          refine iY ?_;intro z p;clear r;go_wp2;go_roundw
          case rel=>exact⟨g+1,E,by go_num,by rw[w.o,a7 A.o,nZ (Int.le_of_lt K.o)],by rw[x.o,iP y.o,B.o,nY,Bool.or_false,Bool.and_false],p.o⟩
          case measure=>simp[intOf];omega
      case neg =>
       have K:=ab Zk;go_wp2_with fail;refine cC ?_;repeat (first | go_big_quiet_step ((fail)) | quiet_step ((fail)))
       refine sQ ?_;intro ZW u Z9 N r;clear u;cases S
       case false =>
        go_wp2_with fail;refine cC ?_;repeat (first | go_big_quiet_step ((fail)) | quiet_step ((fail)))
        refine iY ?_;intro z p;clear r;go_wp2;go_roundw
        case rel=>exact⟨g+1,E,by go_num,by rw[w.o,a7 A.o,pk (show m<=t by have D:=K.o;omega)],by rw[x.o,Bool.false_and],p.o⟩
        case measure=>simp[intOf];omega
       case true =>
        by_cases T:b<=g
        case pos =>
         have Z1:(b:F)<=(g:F):=E;have y:=ab T;go_wp2_with fail;refine cC ?_;repeat (first | go_big_quiet_step ((fail)) | quiet_step ((fail)))
         refine iY ?_;intro z p;clear r;go_wp2;go_roundw
         case rel=>exact⟨g+1,E,by go_num,by rw[w.o,a7 A.o,pk (show m<=t by have D:=K.o;omega)],by rw[x.o,fW y.o,Bool.true_or,eo],p.o⟩
         case measure=>simp[intOf];omega
        case neg =>
         have Z1:¬(b:F)<=(g:F):=E;have y:=ab T;cases q:(m==k)
         case false =>
          have ZY:(m != k)=ae:=by unfold bne;rw[q];rfl
          have B:=ab q;clear q;go_wp2_with fail;refine cC ?_;repeat (first | go_big_quiet_step ((fail)) | quiet_step ((fail)))
          refine iY ?_;intro z p;clear r;go_wp2;go_roundw
          case rel=>exact⟨g+1,E,by go_num,by rw[w.o,a7 A.o,pk (show m<=t by have D:=K.o;omega)],by rw[x.o,iP y.o,B.o,n4,Bool.or_true,eo],p.o⟩
          case measure=>simp[intOf];omega
         case true =>
          have ZY:(m != k)=ak:=by unfold bne;rw[q];rfl
          have B:=ab q;clear q;go_wp2_with fail;refine cC ?_;repeat (first | go_big_quiet_step ((fail)) | quiet_step ((fail)))
          refine iY ?_;intro z p;clear r;go_wp2;go_roundw
          case rel=>exact⟨g+1,E,by go_num,by rw[w.o,a7 A.o,pk (show m<=t by have D:=K.o;omega)],by rw[x.o,iP y.o,B.o,nY,Bool.or_false,Bool.and_false],p.o⟩
          case measure=>simp[intOf];omega
     case neg =>
      have A:=ab Zg;go_wp2_with fail;refine cC ?_;repeat (first | go_big_quiet_step ((fail)) | quiet_step ((fail)))
      refine sQ ?_;intro ZW u Z9 N r;clear u;cases S
      case false =>
       go_wp2_with fail;refine cC ?_;repeat (first | go_big_quiet_step ((fail)) | quiet_step ((fail)))
       refine iY ?_;intro z p;clear r;go_wp2;go_roundw
       case rel=>exact⟨g+1,E,by go_num,by rw[w.o,aF (show ¬m<k by have D:=A.o;omega)],by rw[x.o,Bool.false_and],p.o⟩
       case measure=>simp[intOf];omega
      case true =>
       by_cases T:b<=g
       case pos =>
        have Z1:(b:F)<=(g:F):=E;have y:=ab T;go_wp2_with fail;refine cC ?_;repeat (first | go_big_quiet_step ((fail)) | quiet_step ((fail)))
        refine iY ?_;intro z p;clear r;go_wp2;go_roundw
        case rel=>exact⟨g+1,E,by go_num,by rw[w.o,aF (show ¬m<k by have D:=A.o;omega)],by rw[x.o,fW y.o,Bool.true_or,eo],p.o⟩
        case measure=>simp[intOf];omega
       case neg =>
        have Z1:¬(b:F)<=(g:F):=E;have y:=ab T;cases q:(m==k)
        case false =>
         have ZY:(m != k)=ae:=by unfold bne;rw[q];rfl
         have B:=ab q;clear q;go_wp2_with fail;refine cC ?_;repeat (first | go_big_quiet_step ((fail)) | quiet_step ((fail)))
         refine iY ?_;intro z p;clear r;go_wp2;go_roundw
         case rel=>exact⟨g+1,E,by go_num,by rw[w.o,aF (show ¬m<k by have D:=A.o;omega)],by rw[x.o,iP y.o,B.o,n4,Bool.or_true,eo],p.o⟩
         case measure=>simp[intOf];omega
        case true =>
         have ZY:(m != k)=ak:=by unfold bne;rw[q];rfl
         have B:=ab q;clear q;go_wp2_with fail;refine cC ?_;repeat (first | go_big_quiet_step ((fail)) | quiet_step ((fail)))
         refine iY ?_;intro z p;clear r;go_wp2;go_roundw
         case rel=>exact⟨g+1,E,by go_num,by rw[w.o,aF (show ¬m<k by have D:=A.o;omega)],by rw[x.o,iP y.o,B.o,nY,Bool.or_false,Bool.and_false],p.o⟩
         case measure=>simp[intOf];omega
    ·obtain rfl:l=g:=E;have Zb:=s.trans (Z3.mono s.size);have ZT:=Zn.below Z3;have ZP:=ab (eO o (iC Z3 (Z L)));have Zi:=ZZ.below Zb;obtain⟨Z7,ZC,rfl,_,_,N⟩:=Zi.at bA ZG;rw[Zx.o] at N;have YT:(0:F)<=(b:F):=E;have YS:(b:F)<(l:F):=E;cases ZU:i6 i b l
     case false =>
      rw[ZU] at R;clear ZU;go_wp2;go_roundw
      case rel=>exact⟨b+1,E,by go_num,by rw[R.o];exact ZT,ZP.o⟩
      case measure=>simp[intOf];omega
     case true =>
      rw[ZU] at R;clear ZU;have ZB:U (∀W,an W (Z ⟨Z7,ZC,aj⟩) l i->aY prog 210 #[aa (Z ⟨Z7,ZC,aj⟩) l Zv,M k] W λ n Za=>n=aV (M ((ew i k l:J):F)) /\ W=Za):= λ W D=>Lt k _ _ _ i W D E
      have ZH:=ZA.o k;have Zt:=ZO.o b E (ew i k l);have YU:=Y7.o l;obtain⟨Z8,Zs⟩:∃Z8,ew i k l=Z8:=⟨_,I⟩;rw[Zs] at ZH Zt R ZB;obtain⟨t,Z0⟩:∃t,en i k l=t:=⟨_,I⟩;rw[Z0] at YU R ⊢;obtain⟨ZV,Zq,_⟩:=ZT.cellAt ZH;obtain⟨v,Zf⟩:∃v,O (eW i b) Z8=v:=⟨_,I⟩;rw[Zf] at Zt R ZV;have YP:(0:F)<=(Z8:F):=E;have YO:(Z8:F)<(C:F):=E;have Yu:IntKind.i64.wrap (v+k)=v+k:=bV _ E;have Yt:IntKind.i64.wrap (v+k-t)=v+k-t:=bV _ E;have Y6:U (v+(k-t)=v+k-t):=by rw[U];omega
      have Y3:U (eW i (b+1)=(eW i b).set Z8 (v+k-t)):=by rw[U,R.o,a7 rfl,Y6.o]
      clear Z0 Zs Zf;go_wp2_with fail;refine(ZB.o _ Zi).mono ?_;rintro n Ys ⟨rfl,rfl⟩;go_wp2;refine ei 14 ah ah (λ _ _ _ _ _ D=>D) ?_;refine dY ?_;repeat (first | go_big_quiet_step ((fail)) | quiet_step ((fail)))
      refine dn ?_;refine dg ?_;intro ZW u;have Zm:=ZT.below u;replace Zq:=aB u ZV Zq;replace ZV:=ag u ZV;obtain⟨z,Zj,YL,Zp⟩:=dC Zm ZH (v+k-t);have Y4:=ab (eO (eO ZP.o (iC u (Z L))) Zp);have Y1:=ab Zj;clear Zj Zp Zm ZT u ZP;go_wp2;rw[Y1.o];go_roundw
      case rel=>exact⟨b+1,E,by go_num,by rw[Y3.o];exact YL,Y4.o⟩
      case measure=>simp[intOf];omega
  ·obtain rfl:l=b:=E;refine l5 ?_;intro e f c d;have Yw:=o.size;have Y8:U (∀ZX,ZX<C->0<=O (eW i l) ZX /\ O (eW i l) ZX<=4000000000000000000):= λ ZX _=>by
    have YC:=ZO.o l E ZX;omega
   have Yx:=s.size;clear o G H P Q;go_wp2_with fail;refine(hk _ _ _ _ _ _ Zn.view YW Y8.o).mono ?_;rintro n Yr ⟨⟨k,rfl,Zl⟩,Z5⟩;obtain⟨Y0,YH,YZ,rfl,YA⟩:=Zl.ints;replace e:=aB Z5 c e;replace f:=aB Z5 d f;replace c:=ag Z5 c;replace d:=ag Z5 d;have YB:=au s Z5;clear Z5;go_wp2;refine aK (v:=aL #[ba #[M (bh (l:F) (eW i l)).size,aa Y0 YH YZ],aw (bh (l:F) (eW i l)).ok]) (by simp[aJ,results108,go_sem,c,d,e,f]) I ⟨?_,?_⟩
   ·exact⟨_,I,(((Zl.mono (base':=a.heap.size+1) E).setBelow ar _).setBelow ar _).mono E⟩
   ·exact aD
theorem Fx (Zq:aG) (Zv ZK:J) (a:ac) (k:af) (ZV:an k Zq Zv a):
  bp 166 #[aa Zq Zv ZK] k (eM a):=by
 have ZI:Below k.heap.size k (k.alloc (al #[M 0,aa aj 0 0] 29)):=aD;have Z7:=ZV.below ZI;cases S:ik a
 ·have T:U (eM a=bc.no):=by show eM a=bc.no;unfold eM;rw[S];rfl
  rw[T.o];go_enter func166,ntmps166;go_wp2_with (go_at_call 278;refine(Ac _ _ _ a _ Z7).mono ?_;rw[S];rintro i x ⟨rfl,rfl⟩);refine aK (v:=aL #[am 0 aj 0 0,aw ak]) (by simp[aJ,results166,go_sem]) I ⟨?_,?_⟩
  ·exact b1.no _ _
  ·exact aD
 obtain⟨Yn,Yq,ZC,ZD,Ym⟩:=AP S;obtain⟨Y9,YX,Zk,Yv⟩:=Nh a (λ b ZZ=>(ZD b ZZ).1);obtain⟨Y6,Y7⟩:=Cd a;have Zh:∀l,l+1<(fd a).length->O (fd a) l<=O (fd a) (l+1):= λ l Z0=>by
  rw[cK _ _ E,cK _ _ Z0];exact Int.le_of_lt (List.pairwise_iff_getElem.1 Y6 l (l+1) E Z0 E)
 have Z3:∀l,l<(fd a).length->0<=O (fd a) l /\ O (fd a) l<=1000000:= λ l Z0=>by
  rcases(Y7 _).1 (ms _ l Z0) with y | y
  ·rw[y];omega
  ·obtain⟨C,Za,i⟩:=kP y;rw[<- i,<- cK _ _ Za];exact ZD C Za
 have Z5:=ab (NP (l:=a) Zh YX);have ZG:(fd a).length<=a.length+1:=by
  have:=Lib.compact_length_le ((0::a).mergeSort λ s r=>decide (s<=r));rw[List.length_mergeSort,jG] at this;exact this
 have T:U (eM a=bh a.length (fD a (fd a) ((fd a).length -1))):=by show eM a=_;unfold eM;rw[S,Y9];rfl
 rw[T.o];have ZS:U (Lib.compact ((0::a).mergeSort λ s r=>decide (s<=r))=fd a):=rfl;obtain⟨g,Zl⟩:∃g,fd a=g:=⟨_,I⟩;rw[Zl] at ZS Z5 Zk Z3 ZG ⊢;obtain⟨n,ZH⟩:∃n,g.length=n:=⟨_,I⟩;rw[ZH] at Z5 Zk Z3 ZG ⊢;have ZP:=ab Z3;obtain rfl:Zv=a.length:=ZV.len.symm;have YK:=ab S;have ZM:U (wrap64 (2^a.length)=((2^a.length:J):F)):=gO _ E;have Zr:U (∀b,fD a g (b+1)=(fD a g b).set (ew a (O g (b+1)) a.length) (O (fD a g b) (ew a (O g (b+1)) a.length)+(O g (b+1)-O g b))):= λ b=>rfl
 have ZN:U (fD a g 0=bE (2^a.length) 0):=rfl;obtain⟨ZT,ZW⟩:∃YE,((0::a).mergeSort λ s r=>decide (s<=r))=YE:=⟨_,I⟩;have D:U (ZT.length=a.length+1):=by rw[U,<- ZW,List.length_mergeSort];rfl
 rw[ZW] at ZS;have YG:=ab ZW;obtain⟨j,ZF⟩:∃j,a.length=j:=⟨_,I⟩;have ZO:=ab ZF;obtain⟨p,Z2⟩:∃p,2^j=p:=⟨_,I⟩;have Yx:p<=16:=by rw[<- Z2];exact Nat.pow_le_pow_right (n:=2) aX (show j<=4 from E)
 have YJ:=ab Z2;rw[ZF] at ZV Z7 T ZM Zr ZN D ZG Yq ZC Yn ⊢;rw[Z2] at ZM ZN;have Yc:n<=5:=E;have Z1:=(Z7.cell E);obtain⟨Z4,ZU,rfl,Yu,u⟩:=Z1;have ZQ:=ab ZH;clear Y9 YX Yv Y6 Y7 Zh Z3 Ym ZD S ZF Z2 Zl ZW T ZH;go_enter func166,ntmps166;go_wp2_with fail;refine(Ac _ _ _ a _ Z7).mono ?_;rw[YK.o];rintro i x ⟨rfl,rfl⟩;obtain⟨m,B⟩:∃m,k.alloc (al #[M 0,aa aj 0 0] 29)=m:=⟨_,I⟩;have c: m.cell? (ad k.heap.size 0)=Z (M 0):=by rw[<- B];simp
 have d: m.cell? (ad k.heap.size 1)=Z (aa aj 0 0):=by rw[<- B];simp
 have e: m.frozen? (ad k.heap.size 0)=ak:=by rw[<- B];simp
 have f: m.frozen? (ad k.heap.size 1)=ak:=by rw[<- B];simp
 have YW:m.heap.size=k.heap.size+1:=by rw[<- B];simp
 rw[B] at Z7 ZI u Yu ⊢;clear B;have ZA:av (m.alloc (al #[M 0] 3)) m.heap.size (aq m.heap.size 1 1) [0]:=fF m #[M 0] 1 aZ (by unfold maxLen;omega) I;rw[YW] at ZA;have YM:U (∀b,b<j->(m.alloc (al #[M 0] 3)).cell? ⟨Z4,ZU+b,aj⟩=Z (M (O a b))):= λ b ZZ=>(ag (az m _) (u b ZZ))
 go_wp2_with (at_builtin;refine EB I _ _ I (k.heap.size+1) (aq (k.heap.size+1) 1 1) [0] 1 I a6 ZA Z4 ZU j ZK a a6 ZO.o YM.o E E (by simp[YW]) ?_;intro K Zp Zu ZX Zd);have L:ap m Zu:=cV (az m _) ar Zd (λ b i=>by have:=(ZA.block b i).1;omega);have Yt:=ZX.block K I;replace e:=aB L c e;replace f:=aB L d f;replace c:=ag L c;replace d:=ag L d;have Zo:=au ZI L;have ZB:(0::a).length=1+j:=by rw[jG,ZO.o];omega
 have Zc:=ZX.holds.1;have Zy:=Tryz.slices_Sort_int K 0 Zp (0::a) Zu Zc Yt.2 (by rw[ZB];omega);rw[ZB,YG.o] at Zy;have YI:=ab Zy;clear Zy L Zd Zc u ZB;go_wp2_with fail;refine YI.o.mono ?_;rintro i XY ⟨rfl,YU,YV,rfl⟩;obtain⟨Z8,A⟩:=ZX.over (q:=YU) ZT (by rw[D.o];simp[ZO.o]) YV;obtain⟨Zt,Y3⟩:∃ZL,Go.Sort.grow (Go.Sort.putRow (ed .i64) (Go.Sort.ahead Zu YU) K 0 ZT.toArray) YV=ZL:=⟨_,I⟩;rw[Y3] at Z8 A ⊢;dsimp only;clear Y3 ZX;have Zn:ap k Zt:=cV Zo Zo.size A (λ b i=>by injection i with i;omega);have Zb:=Z8.holds.1;have R:=Z8.holds.2.2.1;have Zx:=Tryz.slices_Compact_int K 0 Zp ZT Zt Zb (by rw[D.o];omega) (by rw[D.o];omega);rw[D.o,ZS.o,ZQ.o,show j+1=1+j from E] at Zx;have YH:=ab Zx;replace e:=eQ A c E e;replace f:=eQ A d E f;replace c:=cW A c E;replace d:=cW A d E;clear Zx A Zb R;go_wp2_with fail;refine YH.o.mono ?_;rintro i XX ⟨rfl,YT,rfl⟩;obtain⟨w,v⟩:=Z8.over (q:=YT) (g++bE (1+j-n) 0) (by rw[dm,ZQ.o,List.length_replicate,D.o];omega) #[];rw[Go.Sort.grow_empty] at w v;replace w:=w.front;rw[ZQ.o] at w;obtain⟨YS,Y2⟩:∃ZL,Go.Sort.putRow (ed .i64) (Go.Sort.ahead Zt YT) K 0 (g++bE (1+j-n) 0).toArray=ZL:=⟨_,I⟩;rw[Y2] at w v ⊢;dsimp only;clear Y2 Z8;have Yz:ap k YS:=cV Zn Zn.size v (λ b i=>by injection i with i;omega);have Ys:=(w.block K I).2;replace e:=eQ v c E e;replace f:=eQ v d E f;replace c:=cW v c E;replace d:=cW v d E;clear v;have Yw:p<=1000000000:=E;have Zw:=ZM.o;go_wp2_with (at_make;refine e6 I _ _ I p _ _ I I Zw Zw Yw ?_;intro YR Zz z Yl;(have G:=ag z c);(have H:=ag z d);(have P:=aB z c e);(have Q:=aB z d f));clear Zw;have Zm:=au Yz z;have Yy:=w.below z;clear z c d e f w;obtain⟨t,o⟩:∃t,YS.heap.size=t:=⟨_,I⟩;rw[o] at Zz Yl Ys ⊢;clear o;have Yp:av YR t (aq t p p) (fD a g 0):=by rw[ZN.o];exact Zz
 clear Zz;go_loopw [6] (λ l wr=>∃b:J,b+1<=n /\ l=M ((b+1:J):F) /\ av wr t (aq t p p) (fD a g b) /\ YR.grownBy wr (Z t)) (λ l _=>n-(intOf l).toNat)
 case atStart=>exact⟨0,E,I,Yp,hI _ _⟩
 case round =>
  obtain⟨b,ZZ,rfl,ZY,o⟩:=hrel;have ZJ:ap k wr:=cV Zm Zm.size o (λ b i=>by injection i with i;omega);have Zj:=Yy.grown o (Or.inr (λ i=>by have:=dD i;omega));have YZ:=ZV.below ZJ;by_cases Y8:b+1<n
  ·have YA:=(Zj.view.at bA Y8);have YB:=(Zj.view.at bA (show b<n from E));obtain⟨Yg,X0,Y,_,_,Zg⟩:=YA;obtain⟨Yh,X1,X,_,_,Z1⟩:=YB;injection Y with Y
   injection Y with Y YP
   subst Y YP;injection X with X
   injection X with X YQ
   subst X YQ;have ZC:=ZP.o (b+1) Y8;have Yr:=ZP.o b E;have V:=ab (Zr.o b);obtain⟨q,Y0⟩:∃s,O g (b+1)=s:=⟨_,I⟩;obtain⟨Z6,Zs⟩:∃s,O g b=s:=⟨_,I⟩;have ZE:=Z5.o b E (ew a q j);rw[Y0] at Zg ZC V;rw[Zs] at Z1 Yr V ZE;have u:=uD a q j;rw[YJ.o] at u;have ZR:U (∀x,an x (Z ⟨Z4,ZU,aj⟩) j a->aY prog 281 #[aa (Z ⟨Z4,ZU,aj⟩) j ZK,M q] x λ i YO=>i=aV (M ((ew a q j:J):F)) /\ x=YO):= λ x y=>GE q _ _ _ a x y E
   obtain⟨W,Zi⟩:∃W,ew a q j=W:=⟨_,I⟩;rw[Zi] at u ZE V ZR;obtain⟨R,Zf,_⟩:=ZY.cellAt u;obtain⟨r,YY⟩:∃r,O (fD a g b) W=r:=⟨_,I⟩;rw[YY] at ZE V R;have Ya:(0:F)<=(W:F):=E;have X9:(W:F)<(p:F):=E;have X6:(0:F)<=(b:F):=E;have X5:(b:F)<(n:F):=E;have X4:(0:F)<=(b:F)+1:=E;have X3:(b:F)+1<(n:F):=E;have X2:IntKind.i64.wrap ((b:F)+1-1)=(b:F):=by rw[bV _ E];omega
   rw[Nat.zero_add] at Zg Z1;have Yj:IntKind.i64.wrap (q-Z6)=q-Z6:=bV _ E;have Yi:IntKind.i64.wrap (r+(q-Z6))=r+(q-Z6):=bV _ E;clear Y0 Zs Zi YY;go_wp2;refine ei 20 ah ah (λ _ _ _ _ _ y=>y) ?_;refine dY ?_;repeat (first | go_big_quiet_step ((go_at_call 281;(with_reducible exact ej (ZR.o _ (YZ.below (aM _ _)))))) | quiet_step ((go_at_call 281;(with_reducible exact ej (ZR.o _ (YZ.below (aM _ _)))))))
   refine dn ?_;refine dg ?_;intro XW Z9;have Y5:=ZY.below Z9;replace Zf:=aB Z9 R Zf;replace R:=ag Z9 R;obtain⟨XV,Y1,Yo,Ze⟩:=dC Y5 u (r+(q-Z6));have YL:=ab (eO (eO o (iC Z9 (Z t))) Ze);have YF:=ab Y1;clear Y1 Ze Y5 ZY Z9 o;go_wp2;rw[YF.o];go_roundw
   case rel=>exact⟨b+1,E,by go_num,by rw[V.o];exact Yo,YL.o⟩
   case measure=>simp[intOf];omega
  ·obtain rfl:n=b+1:=E;refine l5 ?_;intro e f c d;have X7:=o.size;have YN:U (∀C,C<p->0<=O (fD a g b) C /\ O (fD a g b) C<=4000000000000000000):= λ C _=>by
    have Yf:=Z5.o b E C;have Ye:=ZP.o b E;omega
   have X8:=ZJ.size;clear o G H P Q;go_wp2_with fail;refine(jl _ _ _ _ (fD a g b) _ ZY.view Yx YN.o).mono ?_;rintro i XU ⟨⟨XZ,rfl,Y4⟩,N⟩;obtain⟨YD,Yk,YC,rfl,Yb⟩:=Y4.ints;replace e:=aB N c e;replace f:=aB N d f;replace c:=ag N c;replace d:=ag N d;have Yd:=au ZJ N;clear N;go_wp2;refine aK (v:=aL #[ba #[M (bh (j:F) (fD a g b)).size,aa YD Yk YC],aw (bh (j:F) (fD a g b)).ok]) (by simp[aJ,results166,go_sem,c,d,e,f]) I ⟨?_,?_⟩
   ·exact⟨_,I,(((Y4.mono (base':=k.heap.size+1) E).setBelow ar _).setBelow ar _).mono E⟩
   ·exact aD
structure aR where
 s:F
 xs:ac
 t:F
 ys:ac
 a:F
 gg:aU (ac)
structure aR.Ok (st:aR):Prop where
 m:aI st.s st.xs=ae
 n:aI st.t st.ys=ae
 a0:0<=st.a
 a1:st.a<16
 gl:st.gg.length<=8
structure ep where
 sp:aR->a8
 pm:ax->Option (F×ac)
 pf:ax->Option (F×F)
 hsp:∀st,sp st=ae↔(cJ st.s st.xs st.t st.ys=ae /\ kR bY st.xs.length st.xs st.ys (aW st.xs) (aW st.ys))
 hm1:∀r s xs,pm r=Z (s,xs)->aI s xs=ae /\ bd s xs=r
 hm2:∀r,pm r=aj->∀s xs,aI s xs=ae->bd s xs≠r
 hf1:∀r a b,pf r=Z (a,b)->bH a b=ae /\ bG a b=r
 hf2:∀r,pf r=aj->∀a b,bH a b=ae->bG a b≠r
theorem Dj:Nonempty ep:=by
 refine⟨⟨λ b=> @decide (cJ b.s b.xs b.t b.ys=ae /\ kR bY b.xs.length b.xs b.ys (aW b.xs) (aW b.ys)) (Dz _),λ d=> @dite _ (∃c:F×ac,aI c.1 c.2=ae /\ bd c.1 c.2=d) (Dz _) (λ a=>Z (Classical.choose a)) (λ _=>aj),λ d=> @dite _ (∃c:F×F,bH c.1 c.2=ae /\ bG c.1 c.2=d) (Dz _) (λ a=>Z (Classical.choose a)) (λ _=>aj),?_,?_,?_,?_,?_⟩⟩
 ·intro b;simp
 ·intro d j k a;exact vA
 ·intro d a j k g f;split at a
  ·cases a
  ·rename_i e;exact e ⟨(j,k),g,f⟩
 ·intro d h i a;exact vA
 ·intro d a h i g f;split at a
  ·cases a
  ·rename_i e;exact e ⟨(h,i),g,f⟩
def fi (a:aR) (b:bc):aR:=if b.ok then ⟨b.size,b.parts,a.t,a.ys,a.a,a.gg⟩ else a
def bf (b:aR) (a:bc):ax×aR:=(gW a,fi b a)
def hw (a:F):ax:=if a= -1 then [110,111] else Lib.itoa a
def hv (a:F) (b:ac):ax:=if co a b=[] then [45] else pi a b
def iK:ax:=[119,104,97,116]
def iI (f:ep) (a:aR) (b:ax):ax×aR :=
 if b=[97,110,100] then bf a (ck (λ d e=>d&&&e) a.s a.xs a.t a.ys)
 else if b=[111,114] then bf a (ck (λ d e=>d|||e) a.s a.xs a.t a.ys)
 else if b=[120,111,114] then bf a (ck (λ d e=>d^^^e) a.s a.xs a.t a.ys)
 else if b=[106,111,105,110] then bf a (ij a.s a.xs a.t a.ys)
 else if b=[121,97,103,101,114] then bf a (iq a.s a.xs a.t a.ys)
 else if b=[110,111,116] then bf a ((⟨a.s,dv a.xs,ae⟩:bc))
 else if b=[110,111,114,109,97,108] then bf a (bh a.s (a.xs.set 0 0))
 else if b=[115,104,97,114,101,100] then bf a (gw a.s a.xs)
 else if b=[99,117,116] then bf a (fT a.s a.xs a.a)
 else if b=[108,101,97,114,110] then bf a (eK a.s a.xs a.a)
 else if b=[102,111,99,117,115] then bf a (gS a.s a.xs a.a)
 else if b=[102,105,114,115,116] then bf a (cf ak a.s a.xs)
 else if b=[115,101,99,111,110,100] then bf a (cf ae a.s a.xs)
 else if b=[112,97,105,114] then bf a (fC a.s a.xs a.t a.ys)
 else if b=[112,97,115,115] then bf a (il a.s a.xs a.t a.ys)
 else if b=[108,101,102,116] then (bd a.s a.xs,a)
 else if b=[114,105,103,104,116] then (bd a.t a.ys,a)
 else if b=[115,101,116] then (cd a.a.toNat,a)
 else if b=[107,105,110,100,115] then (i5 a.s a.xs,a)
 else if b=[98,101,108,105,101,102] then (cM (fo a.s a.xs a.a),a)
 else if b=[112,111,115,115,105,98,108,101] then (cM (fp a.s a.xs a.a),a)
 else if b=[99,104,97,110,99,101] then (cM (fq a.s a.xs a.a),a)
 else if b=[115,105,122,101] then (cM (bv (er a.xs a.xs.length) (aW a.xs)),a)
 else if b=[99,111,110,116,111,117,114] then (b2 (fS a.s a.xs),a)
 else if b=[99,111,110,102,108,105,99,116] then (cM (gR a.s a.xs a.t a.ys),a)
 else if b=[100,105,115,116,97,110,99,101] then (cM (hu a.s a.xs a.t a.ys),a)
 else if b=[115,112,101,99,105,97,108,105,122,101,100] then (iE (f.sp a),a)
 else if b=[108,101,115,115] then (iE (iG a.s a.xs a.t a.ys),a)
 else if b=[99,111,114,110,101,114,115] then (hv a.s a.xs,a)
 else if b=[115,97,102,101,115,116] then (hw (fc (ce a.s a.xs a.gg) (λ c=>bS 1000 a.xs (aO a.gg c) a.xs.length) a.gg.length),a)
 else if b=[98,111,108,100,101,115,116] then (hw (fc (ce a.s a.xs a.gg) (λ c=> -(bS 1000 a.xs (ca (aO a.gg c) (aO a.gg c).length) a.xs.length)) a.gg.length),a)
 else if b=[101,118,101,110] then (hw (fc (ce a.s a.xs a.gg) (λ c=>eU a.xs (aO a.gg c) (aO a.gg c).length) a.gg.length),a)
 else if b=[117,110,98,101,97,116,101,110] then (b2 (fJ a.s a.xs a.gg),a)
 else if b=[98,101,115,116] then (b2 (gP a.s a.xs a.gg),a)
 else if b=[101,120,99,104,97,110,103,101] then (bd a.t a.ys,⟨a.t,a.ys,a.s,a.xs,a.a,a.gg⟩)
 else if b=[99,108,101,97,114] then ([111,107],⟨a.s,a.xs,a.t,a.ys,a.a,[]⟩)
 else (iK,a)
def cs (a:aR):ax×aR:=([110,111],a)
def gh (a:aR):ax×aR:=([111,107],a)
def u1 (a:aR) (c:ax) (b:ac):ax×aR :=
 if c=[109,111,118,101] then bf a (ek a.s a.xs b)
 else if c=[99,111,114,110,101,114] then bf a (dX a.s a.xs b)
 else if c=[108,101,118,101,108,115] then bf a (eM b)
 else if c=[111,117,116,101,114] then (match dN a.s a.xs b with | some d=>(b2 d,a) | none=>cs a)
 else if c=[108,111,119,101,115,116] then (cM (em a.s a.xs b),a)
 else if c=[104,105,103,104,101,115,116] then (cM (fB a.s a.xs b),a)
 else if b7 a.s b&&decide (a.gg.length<8) then gh ⟨a.s,a.xs,a.t,a.ys,a.a,a.gg++[b]⟩ else cs a
def u2 (a:aR) (c:ax) (b:F×F):ax×aR :=
 if c=[100,105,115,99,111,117,110,116] then bf a (cB a.s a.xs a.s (cX a.s (aH a.s-1)) b.1 b.2)
 else if c=[114,101,108,105,97,98,108,101] then bf a (cB a.s a.xs a.s (dv a.xs) b.1 b.2)
 else if c=[109,105,120] then bf a (cB a.s a.xs a.t a.ys b.1 b.2)
 else bf a (gq a.s a.a b.1 b.2)
def dt (e:ep) (a:aR) (b c:ax):ax×aR :=
 if b=[108,101,102,116] then (match e.pm c with | some d=>gh ⟨d.1,d.2,a.t,a.ys,a.a,a.gg⟩ | none=>cs a)
 else if b=[114,105,103,104,116] then (match e.pm c with | some d=>gh ⟨a.s,a.xs,d.1,d.2,a.a,a.gg⟩ | none=>cs a)
 else if b=[115,101,116] then (match eH c with | some f=>gh ⟨a.s,a.xs,a.t,a.ys,(f:F),a.gg⟩ | none=>cs a)
 else if b=[116,97,98,108,101] then (if dl a.xs c=[] then cs a else (b2 (dl a.xs c),a))
 else if b=[114,101,103,114,101,116] then (match cg c with | some h=>(cM (fw a.s a.xs a.gg h),a) | none=>cs a)
 else if b=[100,105,115,99,111,117,110,116] \/ b=[114,101,108,105,97,98,108,101] \/ b=[109,105,120] \/ b=[115,105,109,112,108,101] then (match e.pf c with | some g=>u2 a b g | none=>cs a)
 else if b=[109,111,118,101] \/ b=[99,111,114,110,101,114] \/ b=[108,101,118,101,108,115] \/ b=[111,117,116,101,114] \/ b=[108,111,119,101,115,116] \/ b=[104,105,103,104,101,115,116] \/ b=[97,99,116] then (match bP c with | some i=>u1 a b i | none=>cs a)
 else (iK,a)
def gx (b:ep) (c:aR) (d:ax):ax×aR:=match h4 d [32] with
 | (a,e,ae)=>dt b c a e
 | (a,_,ak)=>iI b c a
def eb (b:ep):aU (ax)->J->ax->aR->ax
 | [],_,a,_=>a
 | d::f,c,a,e=>if d=[] then eb b f (c+1) a e
  else if 100<=c \/ 40000<a.length then a++[102,117,108,108,10]
  else eb b f (c+1) (a++((gx b e d).1++[10])) (gx b e d).2
def eD:aR:=⟨2,cX 2 3,2,cX 2 3,1,[]⟩
def hr (b:ep) (a:ax):ax:=if 20000<a.length then [108,111,110,103,10] else eb b (bo 10 a) 0 [] eD
def fU (a:bc):Prop:=a.ok=ae->aI a.size a.parts=ae
theorem mb:fU bc.no:= λ a=>by cases a
theorem ql (b:F) (c:ac):fU (bh b c):=by
 unfold fU bh;split
 ·exact λ a=>by cases a
 ·split
  ·rename_i a;exact λ _=>a
  ·exact λ a=>by cases a
theorem rl (a:J->J->J) (b:F) (d:ac) (c:F) (e:ac):fU (ck a b d c e):=by
 unfold ck;exact jf
theorem Lv (a:F) (c:ac) (b:F) (d:ac):fU (ij a c b d):=by
 unfold ij;exact jf
theorem LH (a:F) (c:ac) (b:F) (d:ac):fU (iq a c b d):=by
 unfold iq;exact jf
theorem Jh (a:F) (b:ac):fU (gw a b):=by
 unfold gw;exact jf
theorem LI (b:F) (c:ac) (a:F):fU (fT b c a):=by
 unfold fT nT;exact jf
theorem LJ (b:F) (c:ac) (a:F):fU (gS b c a):=by
 unfold gS lA;exact jf
theorem Ji (b:F) (c:ac) (a:F):fU (eK b c a):=by
 unfold eK;exact jf
theorem uo (a:a8) (b:F) (c:ac):fU (cf a b c):=by
 unfold cf fb;split
 ·split;exact ql _ _;exact mb
 ·exact mb
theorem Lw (a:F) (c:ac) (b:F) (d:ac):fU (fC a c b d):=by
 unfold fC;split;exact rl _ _ _ _ _;exact mb
theorem Lx (a:F) (c:ac) (b:F) (d:ac):fU (il a c b d):=by
 unfold il;split
 ·split;exact uo _ _ _;exact mb
 ·exact mb
theorem uE (c:F) (e:ac) (d:F) (f:ac) (a b:F):fU (cB c e d f a b):=by
 unfold cB;exact jf
theorem Ig (b a c d:F):fU (gq b a c d):=by
 unfold gq;exact jf
theorem Ly (b:F) (e d:ac):fU (ek b e d):=by
 by_cases c:(aI b e&&c8 b d)=ae
 ·have a:=c;rw[b9] at a;rw[<- CB a.1 a.2];exact ql _ _
 ·unfold ek;rw[aF c];exact mb
theorem NR (b:F) (c a:ac):fU (dX b c a):=by
 unfold dX dQ;exact jf
theorem LK (a:ac):fU (eM a):=by
 unfold eM;exact jf
theorem LL {c:aR} {b:bc} (a:c.Ok) (e:fU b):(fi c b).Ok:=by
 unfold fi;split
 ·rename_i d;exact⟨e d,a.n,a.a0,a.a1,a.gl⟩
 ·exact a
theorem Lz (a:bc):(gW a).length<=220:=by
 unfold gW;split
 ·exact hJ _ _
 ·simp
def jA (a:ax×aR):Prop:=a.2.Ok /\ a.1.length<=6000
theorem fk {b:aR} {a:bc} (c:b.Ok) (d:fU a):jA (bf b a):=⟨LL c d,by have:=Lz a;show (gW a).length<=6000;omega⟩
theorem eG {a:aR} {b:ax} (c:a.Ok) (d:b.length<=6000):jA (b,a):=⟨c,d⟩
theorem kJ {a:aR} (b:a.Ok):jA (cs a):=⟨b,by simp[cs]⟩
theorem jX {a:ac} (b:h5 a) (c:a.length<=16):(b2 a).length<=6000:=by
 unfold b2;split
 ·simp
 ·have:=rx a b a.length aZ;omega
theorem uB (a:F) (b:0<=a) (c:a<16):(cd a.toNat).length<=6000:=by
 have:=nF ⟨a.toNat,E⟩;simp only at this;omega
theorem uh {a:F} (b: -1<=a) (c:a<=8):(hw a).length<=6000:=by
 unfold hw;split
 ·simp
 ·have:=ld (x:=a) E E;omega
theorem Ap (a:a8):(iE a).length<=6000:=by cases a<;>simp[iE]
theorem Ih (a:F) (b:ac):(hv a b).length<=6000:=by
 unfold hv;split
 ·simp
 ·rename_i f;have d:=ug (C:=co a b) a f;have e:=qH a (co a b);have g:=qx a b;have c:(pi a b++[10]).length=(eL ((co a b).map (bd a))).length:=by rw[<- d];rfl
  rw[dm] at c;simp at c e;omega
theorem l8 (d:a8) (b:J->F) (a:J) (e:a<=8): -1<=fc d b a /\ fc d b a<=8:=by
 unfold fc;split
 ·have:eT b a<=a:=by
   rcases Nat.eq_zero_or_pos a with c | c
   ·subst c;exact bL _
   ·exact h3 (q8 b a c)
  omega
 ·omega
theorem KP (f:ac) (e:aU (ac)) (c:J):∀b∈fz f e c,0<=b /\ b<(c:F):=by
 induction c with
 | zero=>intro b a;simp[fz,bx] at a
 | succ c d =>
  intro b a
  rw[ny] at a
  split at a
  ·exact yl
  ·have:=d b a;omega
theorem KQ (e f:aU (ac)) (c:J):∀b∈fQ e f c,0<=b /\ b<(c:F):=by
 induction c with
 | zero=>intro b a;simp[fQ,bx] at a
 | succ c d =>
  intro b a
  rw[nz] at a
  split at a
  ·exact yl
  ·have:=d b a;omega
theorem o6 {s:F} {xs:ac} {a:aU (ac)} (d:a.length<=8):h5 (fJ s xs a) /\ (fJ s xs a).length<=16:=by
 unfold fJ;split
 ·refine⟨λ c b=>?_,by have:=tV xs a a.length;omega⟩;have:=KP xs a a.length _ (List.getElem_mem b);rw[cK _ _ b];omega
 ·exact⟨λ c b=>bC b (Nat.not_lt_zero _),Nat.zero_le _⟩
theorem oY {s:F} {xs:ac} {a:aU (ac)} (d:a.length<=8):h5 (gP s xs a) /\ (gP s xs a).length<=16:=by
 unfold gP;split
 ·refine⟨λ c b=>?_,by have:=tW (co s xs) a a.length;omega⟩;have:=KQ (co s xs) a a.length _ (List.getElem_mem b);rw[cK _ _ b];omega
 ·exact⟨λ c b=>bC b (Nat.not_lt_zero _),Nat.zero_le _⟩
theorem rB {b:J->F} {d:J} (e:∀a,a<d-> -9223372036854775808<=b a /\ b a<=9223372036854775807):h5 (cQ b d):= λ a c=>by
 rw[gn] at c;rw[uC _ _ _ c];exact e a c
theorem rm {k:F} {a:ac} (i:aI k a=ae) (f:ax):h5 (dl a f) /\ (dl a f).length<=16:=by
 obtain⟨_,_,c,e,_⟩:=bt i;have d:= λ j=>i3 j a a.length e a.length aZ
 have l:0<=O a 0 /\ O a 0<=1000000:=by
  by_cases g:0<a.length
  ·exact e 0 g
  ·rw[nG _ _ E];omega
 unfold dl;split
 ·exact⟨rB λ b _=>by have:=d (cy b);omega,by rw[gn];exact c⟩
 ·split
  ·exact⟨rB λ b _=>by have:=d (cy b);omega,by rw[gn];exact c⟩
  ·split
   ·exact⟨rB λ b _=>by have:=d (bU b);omega,by rw[gn];exact c⟩
   ·split
    ·exact⟨rB λ b _=>by have:=d (fe b);omega,by rw[gn];exact c⟩
    ·exact⟨λ b h=>bC h (Nat.not_lt_zero _),Nat.zero_le _⟩
theorem Cu {α:Type} (e:α) (c:J->α) (b:ac) (a:J):(fm e c b a).length=b.length:=by
 induction a with
 | zero=>simp[fm]
 | succ a d=>simp only[fm,iu,d]
theorem NS {g:J->F} {B:F} (e:0<=B) (f:∀a,0<=g a /\ g a<=B) (b:ac) (a c:J):0<=O (fm 0 g b a) c /\ O (fm 0 g b a) c<=B:=by
 induction a with
 | zero =>
  by_cases d:c<b.length
  ·rw[show fm 0 g b 0=bE b.length 0 from rfl,cK _ _ (by simpa using d)];simp;exact e
  ·rw[nG _ _ (by rw[Cu];omega)];omega
 | succ a h =>
  rw[show fm 0 g b (a+1)=(fm 0 g b a).set (O b a).toNat (g (dF (b.drop a))) from I,cO]
  split
  ·exact f _
  ·exact h
theorem rq {c:F} {b h f:ac} (a:dN c b h=Z f):h5 f /\ f.length<=16:=by
 unfold dN at a;split at a
 ·rename_i d;rw[b9] at d;obtain⟨j,_⟩:=tD d.1;obtain⟨g,_,l,k,_⟩:=bt j;injection a with a
  subst a;have n:=(rs g d.2).2;have o:1<=c /\ c<=4:=by rcases cG.1 g with a | a | a | a<;>omega
  refine⟨λ e m=>?_,by rw[Cu];omega⟩;have:=NS (g:= λ i=>a9 (bm (bU i)) b b.length) (B:=1000000*(b.length:F)) E (λ e=>i3 (bU e) b b.length k b.length aZ) h c.toNat e;omega
 ·cases a
theorem cu {c:Prop} [Decidable c] {a b:ax×aR} (d:jA a) (e:jA b):jA (if c then a else b):=by
 split
 ·exact d
 ·exact e
theorem KR (c:ep) {b:aR} (a:b.Ok) (d:ax):jA (iI c b d):=by
 unfold iI;refine cu (fk a (rl _ _ _ _ _)) ?_;refine cu (fk a (rl _ _ _ _ _)) ?_;refine cu (fk a (rl _ _ _ _ _)) ?_;refine cu (fk a (Lv _ _ _ _)) ?_;refine cu (fk a (LH _ _ _ _)) ?_;refine cu (fk a (λ _=>L0 a.m)) ?_;refine cu (fk a (ql _ _)) ?_;refine cu (fk a (Jh _ _)) ?_;refine cu (fk a (LI _ _ _)) ?_;refine cu (fk a (Ji _ _ _)) ?_;refine cu (fk a (LJ _ _ _)) ?_;refine cu (fk a (uo _ _ _)) ?_;refine cu (fk a (uo _ _ _)) ?_;refine cu (fk a (Lw _ _ _ _)) ?_;refine cu (fk a (Lx _ _ _ _)) ?_;refine cu (eG a (by have:=hJ b.s b.xs;omega)) ?_;refine cu (eG a (by have:=hJ b.t b.ys;omega)) ?_;refine cu (eG a (uB _ a.a0 a.a1)) ?_;refine cu (eG a (by have:=Gb b.s b.xs;omega)) ?_;refine cu (eG a (by have:=kw ((fo b.s b.xs b.a));omega)) ?_;refine cu (eG a (by have:=kw ((fp b.s b.xs b.a));omega)) ?_;refine cu (eG a (by have:=kw ((fq b.s b.xs b.a));omega)) ?_;refine cu (eG a (by have:=kw ((bv (er b.xs b.xs.length) (aW b.xs)));omega)) ?_;refine cu (eG a (jX (rA (ri a.m)) (by have:=q5 a.m;omega))) ?_;refine cu (eG a (by have:=kw ((gR b.s b.xs b.t b.ys));omega)) ?_;refine cu (eG a (by have:=kw ((hu b.s b.xs b.t b.ys));omega)) ?_;refine cu (eG a (Ap _)) ?_;refine cu (eG a (Ap _)) ?_;refine cu (eG a (Ih _ _)) ?_;refine DK ?_;refine cu (eG a (uh (l8 _ _ _ a.gl).1 (l8 _ _ _ a.gl).2)) ?_;refine cu (eG a (jX (o6 a.gl).1 (o6 a.gl).2)) ?_;refine cu (eG a (jX (oY a.gl).1 (oY a.gl).2)) ?_;refine cu ⟨⟨a.n,a.m,a.a0,a.a1,a.gl⟩,by have:=hJ b.t b.ys;show (bd b.t b.ys).length<=6000;omega⟩ ?_;refine cu ⟨⟨a.m,a.n,a.a0,a.a1,Nat.zero_le _⟩,ar⟩ ?_;exact eG a (by simp[iK])
theorem KS {b:aR} (a:b.Ok) (f:ax) (c:ac):jA (u1 b f c):=by
 unfold u1;refine cu (fk a (Ly _ _ _)) (cu (fk a (NR _ _ _)) (cu (fk a (LK _)) (cu ?_ (cu (eG a (by have:=kw (em b.s b.xs c);omega)) (cu (eG a (by have:=kw (fB b.s b.xs c);omega)) ?_)))))
 ·split
  ·rename_i g d;exact eG a (jX (rq d).1 (rq d).2)
  ·exact kJ a
 ·split
  ·rename_i e;rw[b9,hB] at e;exact⟨⟨a.m,a.n,a.a0,a.a1,by show (b.gg++[c]).length<=8;rw[dm];show b.gg.length+1<=8;omega⟩,by simp[gh]⟩
  ·exact kJ a
theorem KT {b:aR} (a:b.Ok) (d:ax) (c:F×F):jA (u2 b d c):=by
 unfold u2;exact cu (fk a (uE _ _ _ _ _ _)) (cu (fk a (uE _ _ _ _ _ _)) (cu (fk a (uE _ _ _ _ _ _)) (fk a (Ig _ _ _ _))))
theorem KU (f:ep) {b:aR} (a:b.Ok) (j g:ax):jA (dt f b j g):=by
 unfold dt;refine cu ?_ (cu ?_ (cu ?_ (cu ?_ (cu ?_ (cu ?_ (cu ?_ (eG a (by simp[iK]))))))))
 ·split
  ·rename_i i e;exact⟨⟨(f.hm1 _ _ _ e).1,a.n,a.a0,a.a1,a.gl⟩,by simp[gh]⟩
  ·exact kJ a
 ·split
  ·rename_i i e;exact⟨⟨a.m,(f.hm1 _ _ _ e).1,a.a0,a.a1,a.gl⟩,by simp[gh]⟩
  ·exact kJ a
 ·split
  ·rename_i c d;have k:c<16:=by
    unfold eH at d;rw[List.find?_range_eq_some] at d;simpa using d.2.1
   exact⟨⟨a.m,a.n,by show (0:F)<=(c:F);omega,by show (c:F)<16;omega,a.gl⟩,by simp[gh]⟩
  ·exact kJ a
 ·exact cu (kJ a) (eG a (jX (rm a.m g).1 (rm a.m g).2))
 ·split
  ·rename_i h l;exact eG a (by have:=kw (fw b.s b.xs b.gg h);omega)
  ·exact kJ a
 ·split
  ·exact KT a _ _
  ·exact kJ a
 ·split
  ·exact KS a _ _
  ·exact kJ a
theorem BY (a:ep) {c:aR} (b:c.Ok) (d:ax):jA (gx a c d):=by
 unfold gx;split
 ·exact KU a b _ _
 ·exact KR a b _
theorem Cv:aI 2 (cX 2 3)=ae:=cS
theorem Da:eD.Ok:=⟨Cv,Cv,by show (0:F)<=1;omega,by show (1:F)<16;omega,Nat.zero_le _⟩
theorem OP (f:ep) (e:aU (ax)):∀(b:J) (a:ax) (c:aR),a <+:eb f e b a c:=by
 induction e with
 | nil=>intro b a c;exact List.prefix_refl _
 | cons g h d =>
  intro b a c
  unfold eb;split
  ·exact d _ _ _
  ·split
   ·exact List.prefix_append _ _
   ·exact(List.prefix_append _ _).trans (d _ _ _)
theorem OQ (e:ep) (f:aU (ax)):∀(d:aU (ax)) (a:J) (b:ax) (c:aR),eb e d a b c <+:eb e (d++f) a b c:=by
 intro d;induction d with
 | nil=>intro a b c;exact OP e f a b c
 | cons h i g =>
  intro a b c
  rw[lO]
  unfold eb;split
  ·exact g _ _ _
  ·split
   ·exact List.prefix_refl _
   ·exact g _ _ _
theorem ON (f:ep):∀(a:aU (ax)) (b:J) (c:ax) (d:aR),eb f (a++[[]]) b c d=eb f a b c d:=by
 intro a;induction a with
 | nil=>intro b c d;simp[eb]
 | cons g h e =>
  intro b c d
  rw[lO]
  unfold eb;split
  ·exact e _ _ _
  ·split
   ·rfl
   ·exact e _ _ _
theorem u5 (a:b3) (c:ax):∀b:ax,bo a (b++a::c)=bo a b++bo a c:=by
 intro b;by_cases d:a∈b
 ·obtain⟨e,f,g,h⟩:=List.eq_append_cons_of_mem d;have i:f.length<b.length:=by rw[g];simp;omega
  subst g;rw[lM,lO,j2 a e _ h,j2 a e _ h,u5 a c f,lO]
 ·rw[j2 a b c d,ky a b d];rfl
termination_by b=>b.length
theorem OJ (c:ep) (a:ax) (d:J) (m:d=0 \/ ∃b,d=b+1 /\ a[b]? =Z 10) (p:a.length<=20000):hr c (a.take d) <+:hr c a:=by
 have f:hr c a=eb c (bo 10 a) 0 [] eD:=aF E;have g:hr c (a.take d)=eb c (bo 10 (a.take d)) 0 [] eD:=aF (by rw[List.length_take];omega);rw[f,g];rcases m with rfl | ⟨b,rfl,e⟩
 ·have h:eb c (bo 10 (a.take 0)) 0 [] eD=[]:=rfl;rw[h];exact List.nil_prefix
 ·obtain⟨k,l⟩:=List.getElem?_eq_some_iff.1 e;have n:a.take (b+1)=a.take b++[10]:=by rw[kO,e];rfl
  have o:a=a.take b++10::a.drop (b+1):=by
   conv=>lhs;rw[<- List.take_append_drop b a,mH k,l]
  have i:bo 10 (a.take (b+1))=bo 10 (a.take b)++[[]]:=by rw[n,u5];rfl
  have j:bo 10 a=bo 10 (a.take b)++bo 10 (a.drop (b+1)):=by
   conv=>lhs;rw[o]
   rw[u5]
  rw[i,ON,j];exact OQ c _ _ _ _ _
end Go.Proofs.YtkjnhlpccgjfhaaGreatDoor
