/- Lemmas. -/
import Derived.Test.YtkjnhlpccgjfhaaGreatDoorC37
set_option linter.all false
set_option maxRecDepth 100000
set_option maxHeartbeats 4000000
namespace Go.Proofs.YtkjnhlpccgjfhaaGreatDoor
open Go.RowKit
open Go.Proofs.Tryz
open Bool renaming and_eq_true->b9,false->ak,true->ae
open _root_.ByteArray renaming data_extract->Dy,ext->lN,mk->aN,size->eX,size_append->cZ,size_extract->DA
open Go renaming Calls->aY,Value->ay,World->af
open Go.Ending renaming returned->aV
open Go.IntWalk renaming i64_in->bV
open Go.Obj renaming cells->al
open Go.Value renaming bool->aw,slice->aa,string->aE
open Nat renaming le_refl->bL
open Option renaming some->Z
open Or renaming inl->bj,inr->aP
open _root_ renaming Array->bg,Bool->a8,ByteArray->ch,Int->F,List->aU,Nat->J,absurd->bC,beq_eq_false_iff_ne->dx,decide_eq_true_eq->hB,rfl->I
variable {p q:Prop}
def nU (a:J):aU ay->a8
 | []=>ae
 | .string c::b=>decide (c.size<=a)&&nU a b
 | _::_=>ak
theorem Dr {f:J}:∀(e:aU ay),nU f e=ae->∀b,b<e.length->∃c:ch,c.size<=f /\ e[b]? =Z (aE c)
 | [],_,b,d=>bC d (Nat.not_lt_zero _)
 | .string c::g,a,0,_=>by
  unfold nU at a;rw[b9,hB] at a;exact⟨c,a.1,I⟩
 | .string c::g,a,b+1,d=>by
  unfold nU at a;rw[b9] at a;exact Dr g a.2 b (by simpa using d)
def OY:ay->J
 | .string s=>s.size
 | _=>0
theorem lD (f:af) (j:TypeId) (a:bg ay) (e d:J) (l:a.size=e) (g:nU d a.toList=ae):∀b,b<e->∃c:ch,c.size<=d /\ (f.alloc (al a j)).cell? (ad f.heap.size b)=Z (aE c):=by
 intro b k;obtain⟨c,h,i⟩:=Dr a.toList g b (by simp;omega);exact⟨c,h,by simpa using i⟩
theorem Dp (f:af) (g:TypeId) (a:bg ay) (e d:J) (l:a.size=e) (h:nU d a.toList=ae):∀b,b<e->∃c:ch,c.size<=d /\ (f.alloc (al a g)).drew.cell? (ad f.heap.size b)=Z (aE c):= λ b k=>by
 obtain⟨c,i,j⟩:=lD f g a e d l h b k;exact⟨c,i,by simpa using j⟩
theorem OK (b d:J) (a:af) (e:dW a b d) (j:d<=900000000):aY prog 62 #[br b] a (n5 b (d+1) a (ve 100)):=by
 have k:=e.1;go_enter func62,ntmps62;go_wp2_with fail;refine(kL b _ _ 9 _ 100 _ ((e).on (az a _)) E (lD a _ _ 9 100 I cS) ar E E E).mono ?_;rintro i m ⟨_,rfl,⟨n,f,rfl⟩,g,c⟩;replace c:=(aA.of_below (az a _)).trans c;have l:=c.size;go_wp2;go_ret;exact⟨_,I,⟨n,f,I⟩,g,c⟩
theorem DC (a:J) (b:a<[(2:F),3,2,4,1].length):bK (O [2,3,2,4,1] a)=ae:=by
 match a,b with
 | 0,_=>decide
 | 1,_=>decide
 | 2,_=>decide
 | 3,_=>decide
 | 4,_=>decide
theorem OI (e y:J) (Q:af) (K:dW Q e y) (ZS:y<=300000000):aY prog 18 #[br e] Q (n5 e (y+50) Q (ve 6200)):=by
 have ZR:=K.1;go_enter func18,ntmps18;go_wp2_with fail;refine(eN e y 12 _ K E E).mono ?_;rintro f d ⟨_,rfl,⟨b,rfl,L,M⟩,ZK,j⟩;have ZN:=j.size;obtain⟨b,rfl⟩:∃N:J,b=(N:F):=⟨b.toNat,E⟩;have ZQ:b<12:=E;clear K L M;by_cases L:b=0
 ·subst L;exact wW
 by_cases M:b=1
 ·subst M;exact wW
 by_cases V:b=2
 ·subst V;go_wp2_with fail;refine yx ?_;rintro f l ⟨_,rfl,⟨x,r,rfl⟩,i,a⟩;replace a:=j.trans ((aA.of_below (az d _)).trans a);have w:=a.size;obtain⟨c,v,G⟩:∃c,O [2,3,2,4,1] x=c /\ bK c=ae:=⟨_,I,DC x r⟩;rw[v];clear v r j ZK;go_wp2_with fail;refine(Dn e _ c _ i E G).mono ?_;rintro f A ⟨_,rfl,⟨Z5,m,rfl,u,_,_⟩,t,k⟩;obtain⟨B,P,C,rfl,s⟩:=u.ints;go_wp2_with fail;refine(k9 c B P C m A s).mono ?_;rintro f S ⟨rfl,g⟩;have p:=t.on g;have q:=(a.trans k).trans (aA.of_below g);have D:(ai (bd c m)).size<=220:=by rw[bs];exact hJ c m
  generalize ai (bd c m)=o at *;clear u s a k g i t;have H:(aN #[114,105,103,104,116,32]).size=6:=rfl;have z:¬9223372036854775807<(aN #[114,105,103,104,116,32]).size +o.size:=E;exact ob
 by_cases W:b=3
 ·subst W;go_wp2_with fail;refine(eN e _ 8 _ ZK E E).mono ?_;rintro f l ⟨_,rfl,⟨n,rfl,ZP,ZO⟩,i,a⟩;obtain⟨n,rfl⟩:∃N:J,n=(N:F):=⟨n.toNat,E⟩;have Z6:n<16:=E;go_wp2_with fail;refine(la n l Z6).mono ?_;rintro f S ⟨rfl,g⟩;have p:=i.on g;have q:=(j.trans a).trans (aA.of_below g);have D:(ai (cd n)).size<=6000:=by rw[bs];have U:=uB (n:F) E E;simpa using U
  generalize ai (cd n)=o at *;clear j a g i ZK;have H:(aN #[115,101,116,32]).size=4:=rfl;have z:¬9223372036854775807<(aN #[115,101,116,32]).size +o.size:=E;exact ob
 by_cases X:b=4
 ·subst X;exact v8
 by_cases Y:b=5
 ·subst Y;go_wp2_with fail;refine(kL e _ _ 3 _ 100 _ ((ZK).on (az d _)) E (lD d _ _ 3 100 I cS) ar E E E).mono ?_;exact xW
 by_cases Z:b=6
 ·subst Z;exact v8
 by_cases Z9:b=7
 ·subst Z9;go_wp2_with fail;refine(OK e _ _ ZK E).mono ?_;rintro f l ⟨_,rfl,⟨o,D,rfl⟩,p,a⟩;have q:=j.trans a;have H:(aN #[116,97,98,108,101,32]).size=6:=rfl;have z:¬9223372036854775807<(aN #[116,97,98,108,101,32]).size +o.size:=E;exact ob
 by_cases Z8:b=8
 ·subst Z8;go_wp2_with fail;refine(kL e _ _ 16 _ 100 _ ((ZK).on (az d _)) E (lD d _ _ 16 100 I cS) ar E E E).mono ?_;exact rS
 by_cases Z7:b=9
 ·subst Z7;go_wp2_with fail;refine(kL e _ _ 10 _ 100 _ ((ZK).on (az d _)) E (lD d _ _ 10 100 I cS) ar E E E).mono ?_;exact rS
 have Z2:((b:F)==0)=ak:=by rw[dx];omega
 have Z1:((b:F)==1)=ak:=by rw[dx];omega
 have Z0:((b:F)==2)=ak:=by rw[dx];omega
 have ZZ:((b:F)==3)=ak:=by rw[dx];omega
 have ZY:((b:F)==4)=ak:=by rw[dx];omega
 have ZX:((b:F)==5)=ak:=by rw[dx];omega
 have ZW:((b:F)==6)=ak:=by rw[dx];omega
 have ZV:((b:F)==7)=ak:=by rw[dx];omega
 have ZU:((b:F)==8)=ak:=by rw[dx];omega
 have ZT:((b:F)==9)=ak:=by rw[dx];omega
 go_wp2_with fail;refine(kL e _ _ 20 _ 100 _ ((ZK).on (az d _)) E (lD d _ _ 20 100 I cS) ar E E E).mono ?_;exact rS
theorem N2 (S:aG) (P T:J) (t:af) (Z4:ga t t.heap.size S P) (ZG:P<=T):
  aY prog 7 #[aa S P T] t λ f R=>(∃g:ch,f=aV (aE g) /\ g.size<=300000) /\ ap t R:=by
 obtain⟨d,q⟩:∃d,t.heap.size=d:=⟨_,I⟩;have Zg:=ab Z4;go_enter func7,ntmps7;go_wp2_with fail;refine(N4 S P T d _ q (by rw[<- q];exact Z4) ZG).mono ?_;rintro f Q ⟨rfl,Z9,Y⟩;have Zd:=Z9.1;have ZY:=Y;have Y7:=Y.size;clear Y Z4;go_wp2_with fail;refine(Do d _ _ 4 _ [8,5,11,3] _ (Z9.on (az Q _)) E (kH Q _ 3 [8,5,11,3] Q.heap.size 4 I ar I E) E E E).mono ?_;rintro f Zm ⟨_,rfl,⟨m,ZW,rfl⟩,ZS,ZR⟩;have ZP:Below d t Zm:=aA.below (ZY.trans ((az Q _).mono E)) (by simp;omega) ZR E;obtain⟨o,ZU,Zc,Zb⟩:∃o:J,O [8,5,11,3] m=(o:F) /\ 3<=o /\ o<=11:=by
  match m,ZW with
  | 0,_=>exact⟨8,I,E,E⟩
  | 1,_=>exact⟨5,I,E,E⟩
  | 2,_=>exact⟨11,I,E,E⟩
  | 3,_=>exact⟨3,I,E,E⟩
 rw[ZU];have Zu:=ZS.1;clear ZU ZW ZR ZY Z9;go_wp2;go_loopw [4,5] (λ s m wr=>∃(a:J) (b:ch),m=M a /\ s=aE b /\ a<=o /\ b.size<=(o-a)*6201 /\ (a=o \/ 1<=b.size) /\ dW wr d (1+(o-a)*50) /\ Below d t wr /\ d<wr.heap.size) (λ _ m _=>(intOf m).toNat)
 case atStart=>exact⟨o,_,I,I,bL _,by simp[eX],bj I,ZS.mono E,ZP,Zu⟩
 case round =>
  obtain⟨a,b,rfl,rfl,ZV,ZN,ZO,L,U,Y6⟩:=hrel;by_cases Y3:0<a
  ·have x:(0:F)<(a:F):=E;go_wp2_with fail;refine(OI d _ _ L E).mono ?_;rintro f Z0 ⟨_,rfl,⟨g,c,rfl⟩,n,Z6⟩;have l:=aA.below U E Z6 E;have Zt:=Z6.size;have N:¬9223372036854775807<b.size+g.size:=E;have ZT:(aN #[10]).size=1:=rfl;have ZQ:¬9223372036854775807<(b++g).size +(aN #[10]).size:=by rw[cZ];omega
   clear Z6 L U;go_wp2;go_roundw
   case rel=>first | exact⟨a-1,_,by go_num,rfl,E,by rw[cZ,cZ];omega,aP (by rw[cZ];omega),n.mono E,l,E⟩ | exact⟨_,⟨a-1,_,by go_num,rfl,E,by rw[cZ,cZ];omega,aP (by rw[cZ];omega),n.mono E,l,E⟩,rfl⟩ | exact⟨_,_,⟨a-1,_,by go_num,rfl,E,by rw[cZ,cZ];omega,aP (by rw[cZ];omega),n.mono E,l,E⟩,rfl,rfl⟩ | exact⟨_,_,_,⟨a-1,_,by go_num,rfl,E,by rw[cZ,cZ];omega,aP (by rw[cZ];omega),n.mono E,l,E⟩,rfl,rfl,rfl⟩ | exact⟨_,_,_,_,⟨a-1,_,by go_num,rfl,E,by rw[cZ,cZ];omega,aP (by rw[cZ];omega),n.mono E,l,E⟩,rfl,rfl,rfl,rfl⟩ | exact⟨_,_,_,_,_,⟨a-1,_,by go_num,rfl,E,by rw[cZ,cZ];omega,aP (by rw[cZ];omega),n.mono E,l,E⟩,rfl,rfl,rfl,rfl,rfl⟩
   case measure=>simp[intOf];omega
  ·obtain rfl:a=0:=E;have K:1<=b.size:=E;have W:b.size<=69000:=E;clear ZO ZN Y3 ZV;go_wp2_with fail;refine(eN d _ 60 _ L E E).mono ?_;rintro f Z0 ⟨_,rfl,⟨j,rfl,G,H⟩,n,c⟩;have l:=aA.below U E c E;have Zt:=c.size;clear c L;by_cases Z3:j=0
   ·subst Z3;go_wp2;go_loopw [4,6] (λ s m wr=>∃(a:J) (Y4:ch),m=M a /\ s=aE Y4 /\ a<=101 /\ Y4.size<=69000+5*a /\ 1<=Y4.size /\ Z0=wr) (λ _ m _=>(101-intOf m).toNat)
    case atStart=>exact⟨0,b,I,I,E,E,K,I⟩
    case round =>
     obtain⟨a,Y4,rfl,rfl,ZV,ZX,X,rfl⟩:=hrel;by_cases Y3:a<=100
     ·have x:(a:F)<=100:=E;have ZT:(aN #[119,104,97,116,10]).size=5:=rfl;have N:¬9223372036854775807<Y4.size+(aN #[119,104,97,116,10]).size:=E;go_wp2;go_roundw
      case rel=>exact⟨a+1,_,by go_num,I,E,by rw[cZ];omega,by rw[cZ];omega,by trivial⟩
      case measure=>simp[intOf];omega
     ·have x:¬(a:F)<=100:=E;exact bl
   have Za:(j==0)=ak:=by simpa using Z3
   by_cases Z2:j=1
   ·subst Z2;go_wp2;go_loopw [4] (λ s wr=>∃(Y4:ch),s=aE Y4 /\ Y4.size<=69000 /\ 1<=Y4.size /\ Z0=wr) (λ s _=>20001-OY s)
    case atStart=>exact⟨b,I,E,K,I⟩
    case round =>
     obtain⟨Y4,rfl,ZX,X,rfl⟩:=hrel;by_cases Y3:Y4.size<=20000
     ·have x:(Y4.size:F)<=20000:=E;have ZT:(aN #[119,104,97,116,10]).size=5:=rfl;have N:¬9223372036854775807<Y4.size+(aN #[119,104,97,116,10]).size:=E;go_wp2;go_roundw
      case rel=>exact⟨_,I,by rw[cZ];omega,by rw[cZ];omega,by trivial⟩
      case measure =>
       show 20001-(Y4++_).size <20001-Y4.size;rw[cZ];omega
     ·have x:¬(Y4.size:F)<=20000:=E;exact bl
   have Y9:(j==1)=ak:=by simpa using Z2
   by_cases Z1:j=2
   ·subst Z1;have x:(0:F)<=(b.size:F)-1:=E;have Zf:(b.size:F)-1<=(b.size:F):=E;have Ze:IntKind.i64.wrap ((b.size:F)-1)=(b.size:F)-1:=bV _ E;go_wp2;go_ret;subst q;exact⟨⟨_,I,by rw[DA];omega⟩,l⟩
   have Y8:(j==2)=ak:=by simpa using Z1
   replace W:b.size<=99000:=E;clear Z3 Z2 Z1 G H;go_wp2_with fail;refine(eN d _ 2 _ n E E).mono ?_;rintro f Zl ⟨_,rfl,⟨j,rfl,G,H⟩,A,c⟩;have p:=aA.below l E c E;have Zs:=c.size;clear c;by_cases r:j=0
   ·subst r;go_wp2;go_ret;subst q;exact⟨⟨_,I,E⟩,p⟩
   have Zx:(j==0)=ak:=by simpa using r
   clear r G H;go_wp2_with fail;refine(eN d _ 256 _ A E E).mono ?_;rintro f Zk ⟨_,rfl,⟨Y5,rfl,Zw,Zv⟩,B,c⟩;have y:=aA.below p E c E;have Zr:=c.size;clear c;go_wp2_with fail;refine(eN d _ 256 _ B E E).mono ?_;rintro f u ⟨_,rfl,⟨i,rfl,ZE,ZD⟩,C,c⟩;have V:=aA.below y E c E;have Zq:=c.size;have ZM:=C.1;clear c A B p y;obtain⟨a,ZH,ZJ⟩:∃a:J,Int.tmod (Y5+i) (b.size:F)=(a:F) /\ a<b.size:=by
    obtain⟨Y5,rfl⟩:∃k:J,Y5=(k:F):=⟨Y5.toNat,E⟩;obtain⟨i,rfl⟩:∃k:J,i=(k:F):=⟨i.toNat,E⟩;exact⟨(Y5+i)%b.size,by rw[<- Int.natCast_add];exact(Int.ofNat_tmod _ _).symm,Nat.mod_lt _ E⟩
   have Zy:IntKind.i64.wrap (Y5+i)=Y5+i:=bV _ E;have ZF:((b.size:F)==0)=ak:=by rw[dx];omega
   have z:∀v w:J,(b.extract v w).size<=100000:= λ v w=>by rw[DA];omega
   have ZK:(a:F)<=(b.size:F):=E;have ZI:a<=b.size:=E;have ZL:IntKind.i64.wrap (a:F)=(a:F):=bV _ E;go_wp2_with fail;go_region_held3 (λ R=>True) (trivial) (first | (go_at_call 20;refine(kL d _ u.heap.size 5 _ 1 _ (C.on aD) E (Dp u _ _ 5 1 rfl cS) ar E E E).mono ?_;rintro f ZZ ⟨_,rfl,⟨g,ZB,rfl⟩,Z8,Z5⟩;have N:¬9223372036854775807<a+g.size:=E;have ZQ:=(by have:=z 0 a;rw[cZ];omega:(b.extract 0 a++g).size<=100001);have D:aA d (d+1) u ZZ:=aA.trans (aA.of_below aD) Z5) | (go_at_call 19;refine(eN d _ 2 _ Z8 E E).mono ?_;rintro f Zn ⟨_,rfl,⟨e,rfl,ZA,Zz⟩,ZC,Z7⟩;obtain⟨e,rfl⟩:∃k:J,e=(k:F):=⟨e.toNat,E⟩;have Zj:(0:F)<=(a:F)+(e:F):=E;have Zi:(a:F)+(e:F)<=(b.size:F):=E;have Zh:IntKind.i64.wrap ((a:F)+(e:F))=(a:F)+(e:F):=(bV _ E);have Zp:¬9223372036854775807<a+g.size+(b.size-(a+e)):=E;have Zo:¬9223372036854775807<a+g.size+(b.size-((a:F)+(e:F)).toNat):=E));go_wp2;go_ret;subst q;refine⟨⟨_,I,?_⟩,?_⟩
   ·rw[cZ];have:=z ((a:F)+(e:F)).toNat b.size;omega
   ·exact aA.below (aA.below V E D E) (by have:=D.size;omega) Z7 E
theorem D1 (e:ch) (c:af) (x:e.size<=maxLen) (i:hC c) (k:∃g f,c.var? prog "strconv.ErrSyntax" =Z #[.iface g f]) (j:∃g f,c.var? prog "strconv.ErrRange" =Z #[.iface g f]) (m:c.ShapedOpen prog):
  aC 3 #[aE e] c (aw ae):=by
 have p:=ab (C3 c i k j m);clear i k j m;obtain⟨a,rfl⟩:∃a,e=ai a:=⟨_,mE e⟩;by_cases w:1048576<a.length
 ·have t:(1048576:F)<((ai a).size:J):=by rw[bs];omega
  generalize ai a=q at *;go_enter func3,ntmps3;exact jP
 have t:¬(1048576:F)<((ai a).size:J):=by rw[bs];omega
 obtain⟨d⟩:=Dj;have o:U (∀b,aC 5 #[aE (ai a)] b (aE (ai (hr d a)))):= λ b=>As d a b E
 have n:U (∀b,dp b->aC 6 #[aE (ai a)] b (aE (ai (hr d a)))):= λ b s=>uG d a b E s
 generalize hr d a=B at *;have z:=u0 B;clear x w;generalize ai a=q at *;generalize ai B=y at *;go_enter func3,ntmps3;go_wp2_with fail;refine(o.o _).mono ?_;rintro r b ⟨rfl,l⟩;go_wp2_with fail;refine(n.o _ (p.o.below l)).mono ?_;rintro r A ⟨rfl,v⟩;have u:=au l v;go_wp2;go_ret;exact⟨I,u⟩
theorem DD (a:ax) (b:J):(ai a).extract 0 b=ai (a.take b):=by
 apply lN;rw[Dy];simp[ai]
def vg (c:ax) (b:J):Prop:=b=0 \/ ∃a,b=a+1 /\ c[a]? =Z 10
theorem Ok (r:aG) (j s:J) (O:aG) (g P:J) (i:af) (Z7:j<=1048576->ga i i.heap.size r j) (ZS:j<=s) (ZN:j<=9223372036854775807)
  (ZQ:g<=1048576->ga i i.heap.size O g) (ZE:g<=P) (ZM:g<=9223372036854775807) (R:hC i) (T:∃B A,i.var? prog "strconv.ErrSyntax" =Z #[.iface B A]) (S:∃B A,i.var? prog "strconv.ErrRange" =Z #[.iface B A]) (Z8:i.ShapedOpen prog):
  aC 4 #[aa r j s,aa O g P] i (aw ae):=by
 have L:=ab (C3 i R T S Z8);clear R T S Z8 ZQ;by_cases ZD:1048576<j
 ·have Z2:(1048576:F)<(j:F):=E;go_enter func4,ntmps4;exact jP
 have Z2:¬(1048576:F)<(j:F):=E;by_cases ZF:1048576<g
 ·have Z1:(1048576:F)<(g:F):=E;go_enter func4,ntmps4;exact jP
 have Z1:¬(1048576:F)<(g:F):=E;have N:=ab (Z7 E);clear Z7;go_enter func4,ntmps4;go_wp2_with fail;refine(N2 r j s i N.o ZS).mono ?_;rintro q f ⟨⟨Z6,rfl,ZR⟩,x⟩;obtain⟨a,rfl⟩:∃a,Z6=ai a:=⟨_,mE Z6⟩;rw[bs] at ZR;obtain⟨Zo⟩:=Dj;have H:U (∀f,aC 5 #[aE (ai a)] f (aE (ai (hr Zo a)))):= λ f=>As Zo a f E
 have D:U (∀f,dp f->aC 6 #[aE (ai a)] f (aE (ai (hr Zo a)))):= λ f t=>uG Zo a f E t
 have C:U (∀c,c<=a.length->∀f,dp f->aC 6 #[aE (ai (a.take c))] f (aE (ai (hr Zo (a.take c))))):= λ c Y f t=>uG Zo (a.take c) f (by rw[List.length_take];omega) t
 have G:U (∀c,vg a c->a.length<=20000->hr Zo (a.take c) <+:hr Zo a):= λ c Y Z9=>OJ Zo a c Y Z9
 generalize ZZ:hr Zo a=n at *;have Zs:=u0 n;clear ZZ N;go_wp2_with fail;refine(D.o _ (L.o.below x)).mono ?_;rintro q Zq ⟨rfl,V⟩;have Z0:=au x V;go_wp2_with fail;refine(H.o _).mono ?_;rintro q ZO ⟨rfl,W⟩;have u:=au Z0 W;have ZA:=bs a;obtain⟨k,ZB,ZC⟩:∃k:J,Int.tmod (g:F) 12=(k:F) /\ k<12:=⟨g%12,(Int.ofNat_tmod g 12).symm,Nat.mod_lt _ E⟩;clear x V W H D;go_wp2;go_loopw [7,8,9] (λ Z4 Z3 z wr=>∃(d c b:J),Z4=M d /\ Z3=M c /\ z=M b /\ d<=b /\ c<=b /\ b<=a.length /\ U (vg a c) /\ ZO=wr) (λ _ _ z _=>a.length-(intOf z).toNat)
 case atStart=>exact⟨0,0,0,I,I,I,E,E,E,bj I,I⟩
 case round =>
  obtain⟨d,c,b,rfl,rfl,rfl,ZH,ZV,ZL,e,rfl⟩:=hrel;by_cases ZG:b<a.length
  ·have ZX:(b:F)<((ai a).size:J):=E;have ZW:b<(ai a).size:=E;have p:=ab (jq (ai a) b ZW);rw[cE] at p;by_cases o:(ai a)[b]=10
   ·have ZY:(((ai a)[b].toNat:F)==10)=ae:=by rw[o];rfl
    have m:U (vg a (b+1)):=aP ⟨b,I,by rw[p.o,o]⟩;clear o p;have Zz:IntKind.i64.wrap ((d:F)+1)=(d:F)+1:=bV _ E;have Zy:IntKind.i64.wrap (1+(k:F))=1+(k:F):=bV _ E;by_cases ZI:d+1<=1+k
    ·have ZT:(d:F)+1<=1+(k:F):=E;go_wp2;go_roundw
     case rel=>first | exact⟨d+1,b+1,b+1,by go_num,by go_num,by go_num,E,E,E,m,by trivial⟩ | exact⟨_,⟨d+1,b+1,b+1,by go_num,by go_num,by go_num,E,E,E,m,by trivial⟩,rfl⟩ | exact⟨_,_,⟨d+1,b+1,b+1,by go_num,by go_num,by go_num,E,E,E,m,by trivial⟩,rfl,rfl⟩ | exact⟨_,_,_,⟨d+1,b+1,b+1,by go_num,by go_num,by go_num,E,E,E,m,by trivial⟩,rfl,rfl,rfl⟩ | exact⟨_,_,_,_,⟨d+1,b+1,b+1,by go_num,by go_num,by go_num,E,E,E,m,by trivial⟩,rfl,rfl,rfl,rfl⟩ | exact⟨_,_,_,_,_,⟨d+1,b+1,b+1,by go_num,by go_num,by go_num,E,E,E,m,by trivial⟩,rfl,rfl,rfl,rfl,rfl⟩
     case measure=>simp[intOf];omega
    ·have ZT:¬(d:F)+1<=1+(k:F):=E;go_wp2;go_roundw
     case rel=>first | exact⟨d+1,c,b+1,by go_num,rfl,by go_num,E,E,E,e,by trivial⟩ | exact⟨_,⟨d+1,c,b+1,by go_num,rfl,by go_num,E,E,E,e,by trivial⟩,rfl⟩ | exact⟨_,_,⟨d+1,c,b+1,by go_num,rfl,by go_num,E,E,E,e,by trivial⟩,rfl,rfl⟩ | exact⟨_,_,_,⟨d+1,c,b+1,by go_num,rfl,by go_num,E,E,E,e,by trivial⟩,rfl,rfl,rfl⟩ | exact⟨_,_,_,_,⟨d+1,c,b+1,by go_num,rfl,by go_num,E,E,E,e,by trivial⟩,rfl,rfl,rfl,rfl⟩ | exact⟨_,_,_,_,_,⟨d+1,c,b+1,by go_num,rfl,by go_num,E,E,E,e,by trivial⟩,rfl,rfl,rfl,rfl,rfl⟩
     case measure=>simp[intOf];omega
   ·have ZY:(((ai a)[b].toNat:F)==10)=ak:=by rw[dx];intro q;exact o (UInt8.toNat_inj.1 (by simp;omega))
    clear o p;go_wp2;go_roundw
    case rel=>first | exact⟨d,c,b+1,rfl,rfl,by go_num,E,E,E,e,by trivial⟩ | exact⟨_,⟨d,c,b+1,rfl,rfl,by go_num,E,E,E,e,by trivial⟩,rfl⟩ | exact⟨_,_,⟨d,c,b+1,rfl,rfl,by go_num,E,E,E,e,by trivial⟩,rfl,rfl⟩ | exact⟨_,_,_,⟨d,c,b+1,rfl,rfl,by go_num,E,E,E,e,by trivial⟩,rfl,rfl,rfl⟩ | exact⟨_,_,_,_,⟨d,c,b+1,rfl,rfl,by go_num,E,E,E,e,by trivial⟩,rfl,rfl,rfl,rfl⟩ | exact⟨_,_,_,_,_,⟨d,c,b+1,rfl,rfl,by go_num,E,E,E,e,by trivial⟩,rfl,rfl,rfl,rfl,rfl⟩
    case measure=>simp[intOf];omega
  ·obtain rfl:b=a.length:=E;have ZK:(0:F)<=(c:F):=E;have ZJ:(c:F)<=((ai a).size:J):=E;have K:=ab (DD a c);have v:=C.o c ZV;have w:=G.o c e.o;have ZX:¬((a.length:F)<((ai a).size:J)):=E;generalize hr Zo (a.take c)=l at v w;go_wp2_with fail;rw[K.o];refine(v _ (L.o.below u)).mono ?_;rintro q Zp ⟨rfl,X⟩;have Q:=au u X;clear v C G e K X u;by_cases Z9:20000<a.length
   ·have ZU:(20000:F)<((ai a).size:J):=E;go_wp2;go_ret;exact⟨I,Q⟩
   ·have ZU:¬(20000:F)<((ai a).size:J):=E;obtain⟨Zr,y⟩:=w E;have Zx:=bs l;have Zw:=bs n;have Zt:l.length<=n.length:=by rw[<- y];simp
    have Zv:((ai l).size:F)<=((ai n).size:J):=E;have Zu:(0:F)<=((ai l).size:J):=E;have Z5:U ((ai n).extract 0 l.length=ai l):=by rw[U,DD,<- y];simp
    have ZP:=u0 l;clear w y;go_wp2;rw[Z5.o,ZP,Bool.or_true];go_ret;exact⟨I,Q⟩
end Go.Proofs.YtkjnhlpccgjfhaaGreatDoor
