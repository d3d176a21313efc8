/- A part of the proof: lemmas (my texts, shortened by a program of mine). -/
import Derived.Test.YtkjnhlpccgjfhaaGreatDoorC27
set_option linter.all false
set_option maxRecDepth 100000
set_option maxHeartbeats 4000000
namespace Go.Proofs.YtkjnhlpccgjfhaaGreatDoor
open Go.RowKit
open Go.Proofs.Tryz
open And renaming intro->gC
open Bool renaming false->ak,true->ae,true_and->eo
open _root_.ByteArray renaming ext->lN,mk->aN
open Classical renaming byContradiction->jJ
open Go renaming Calls->aY,World->af,bodyPost_ret->aK,results->aJ
open Go.Ending renaming returned->aV
open Go.Lib renaming cut->h4,toList_data->mG
open Go.Obj renaming cells->al
open Go.Value renaming agg->ba,bool->aw,slice->aa,string->aE,tuple->aL
open Go.World renaming cell?_alloc_lt->fr,cell?_setCell_other->c3,cell?_setCell_same->fZ
open Int renaming toNat_natCast->cI
open List renaming getElem?_eq_getElem->fV,getElem?_map->jE,length_map->ec,replicate->bE,take_add_one->kO,take_of_length_le->jF
open Nat renaming le_refl->bL,le_trans->ez
open Option renaming map_some->mI,none->aj,some->Z
open Option.some renaming inj->iO,injEq->nV
open UInt8 renaming ofNat->it,toNat_ofNat'->mL
open _root_ renaming Bool->a8,ByteArray->ch,Int->F,List->aU,Nat->J,UInt8->b3,absurd->bC,beq_eq_false_iff_ne->dx,congrArg->be,decide_eq_false->iP,decide_eq_true->fW,if_neg->aF,if_pos->a7,rfl->I
variable {p q:Prop}
def jz (e:ax):Option (J×F):=match bo 32 e with
 | [b,c]=>(match eH b,cg c with
  | some a,Z d=>Z (a,d)
  | _,_=>aj)
 | _=>aj
theorem Cr {c a b:ax} (e:bo 32 c=[a,b]):jz c=(match eH a,cg b with | some d,Z f=>Z (d,f) | _,_=>aj):=by unfold jz;rw[e]
theorem Mb {b:ax} (a:(bo 32 b).length≠2):jz b=aj:=by
 unfold jz;split
 ·next c=>rw[c] at a;exact bC I a
 ·rfl
theorem mE (a:ch):a=ai a.data.toList:=Dg I
theorem uv {a:aU ch} {b:aU (ax)} (g:a.map (·.data.toList)=b) (h:a.length=2):∃c d,a=[ai c,ai d] /\ b=[c,d]:=by
 match a,h with
 | [e,f],_=>exact⟨e.data.toList,f.data.toList,by rw[<- mE,<- mE],by rw[<- g];rfl⟩
theorem Li {a:J} (b:a<16):eH (cd a)=Z a:=uu b I
theorem Mc {c:ac} {a:J} (d:a<16) (f:0<=O c a) (g:O c a<=1000000):jz (di c (a:F))=Z (a,O c a):=by
 have e:bo 32 (di c (a:F))=[cd a,Lib.itoa (O c a)]:=by
  unfold di;rw[cI,j2 32 _ _ (λ b=>by
   rcases us d b with b | b
   ·exact bC b aX
   ·have:(32:b3).toNat=32:=rfl;omega),ky 32 _ (λ b=>by
   have:=qN f b;have:(32:b3).toNat=32:=rfl;omega)]
 rw[Cr e,Li d,nm _ E E]
theorem Ia (a:ax) (B:af) (O:a.length<=1000000):
  aY prog 94 #[aE (ai a)] B λ i C=>(∃(b:J) (T:F) (A:a8),i=aV (aL #[M (b:F),M T,aw A]) /\ jz a=(if A then Z (b,T) else aj) /\ b<16) /\ ap B C:=by
 go_enter func94,ntmps94;go_wp2_with fail;refine(oG (ai a) 32 32 I _ (by rw[bs];omega)).mono ?_;rintro i P ⟨G,z,E,S,rfl,q,f,m⟩;rw[cE] at f;obtain⟨x,L,H,K,j⟩:=q.at;by_cases t:z=2
 ·subst t;obtain⟨r,g,rfl,p⟩:=uv f x.symm;have w:=j 0 _ I;have o:=j 1 _ I;rw[Nat.zero_add] at w o;have d:=ab (Cr p);have y:g.length<=a.length:=by
   have s:=nE 32 a;rw[p] at s;have u:(Lib.join [r,g] [32]).length=a.length:=by rw[s]
   rw[Lib.join_cons] at u;simp[Lib.joinTail] at u;omega
  have D:=ab y;clear f j q p x y;go_wp2_with fail;refine(tq r _).mono ?_;rintro i Q ⟨rfl,n⟩;replace o:=ag n o;have l:=au m n;clear m n w;go_wp2_with fail;refine(ku (ai g) _ (by rw[bs];have:=D.o;omega)).mono ?_;rw[cE];rintro i R ⟨rfl,rfl⟩;cases c:eH r with
  | none =>
   have e:U (jz a=aj):=by rw[U,d.o,c]
   clear c
   go_wp2
   refine aK (v:=aL #[M ((0:J):F),M ((cg g).getD 0),aw ak]) (by simp[aJ,results94,go_sem]) I ⟨⟨0,_,ak,I,by rw[e.o];rfl,aX⟩,l⟩
  | some b =>
   have v:b<16:=by
    unfold eH at c;rw[List.find?_range_eq_some] at c;simpa using c.2.1
   cases k:cg g with
   | none =>
    have e:U (jz a=aj):=by rw[U,d.o,c,k]
    clear c k
    go_wp2
    refine aK (v:=aL #[M (b:F),M 0,aw ak]) (by simp[aJ,results94,go_sem]) I ⟨⟨b,_,ak,I,by rw[e.o];rfl,v⟩,l⟩
   | some T =>
    have e:U (jz a=Z (b,T)):=by rw[U,d.o,c,k]
    clear c k
    go_wp2
    refine aK (v:=aL #[M (b:F),M T,aw ae]) (by simp[aJ,results94,go_sem]) I ⟨⟨b,_,ae,I,by rw[e.o];rfl,v⟩,l⟩
 ·have d:U (jz a=aj):=Mb (by rw[<- f,ec];omega);have N:((z:F) != 2)=ae:=by rw[bne_iff_ne];omega
  clear f j q t;go_wp2;refine aK (v:=aL #[M ((0:J):F),M 0,aw ak]) (by simp[aJ,results94,go_sem]) I ⟨⟨0,_,ak,I,by rw[d.o];rfl,aX⟩,m⟩
theorem Md {c g h:ax} {a:b3} (b:h4 c [a]=(g,h,ae)):c≠[]:=by
 intro d;subst d;rw[rh a [] ar] at b;injection b with _ e
 injection e with _ f
 cases f
theorem qU (d:b3) (a:ax):∃b c f,h4 a [d]=(b,c,f) /\ b.length<=a.length /\ c.length<=a.length:=by
 by_cases e:d∈a
 ·obtain⟨b,c,g,h⟩:=List.eq_append_cons_of_mem e;subst g;exact⟨b,c,ae,o9 d b c h,ar,by simp;omega⟩
 ·exact⟨a,[],ak,rh d a e,bL _,Nat.zero_le _⟩
theorem EU (W:ax) (t:af) (YC:W.length<=100000) (Zl:∀B C,aI B C=ae->bd B C≠W) (Z4:dp t):
  aC 50 #[aE (ai W)] t (aL #[am 0 aj 0 0,aw ak]):=by
 obtain⟨ZY,ZS,ZJ,hcut,Yy,Yw⟩:=qU 58 W;have Zd:=ab hcut;have Za:U (ZJ=ae->∀B C,bd B C≠W):= λ Y4 B C i=>by
  subst Y4;by_cases Zm:aI B C=ae
  ·exact Zl B C Zm i
  ·have Z0:bd B C=[]:=by unfold bd;rw[aF Zm]
   exact Md hcut (i.symm.trans Z0)
 clear hcut Zl;have Zk:(ai ZY).size<=1048576:=by rw[bs];omega
 go_enter func50,ntmps50;go_wp2_with fail;refine(kv W 58 _ _ _ Zd.o E _ (Z4.below aD)).mono ?_;rintro i YS ⟨rfl,ZE⟩;obtain⟨c,d,e,f⟩:=cj (t.heap.size) ZE ar;have l:ap t YS:=bJ ZE;clear ZE;by_cases S:∃k,Lib.atoiAll (ai ZY).data.toList=.ok k
 case neg =>
  have Z8:= λ g ZO=>ml (ai ZY) (λ k i=>S ⟨k,i⟩) Zk g ZO
  clear S;go_wp2_with fail;refine(Z8 _ (Z4.below l)).mono ?_;rintro i Zu ⟨ZQ,Y6,rfl,v⟩;refine hF ?_;intro e f c d A;clear v Z8;cases ZJ;all_goals
   go_wp2;refine aK (v:=aL #[am 0 aj 0 0,aw ak]) (by simp[aJ,results50,go_sem,c,d]) I ⟨I,?_⟩;exact aD
 case pos =>
  obtain⟨k,S⟩:=S;have Z7:= λ g=>kE (ai ZY) k S Zk g
  clear S;go_wp2_with fail;refine(Z7 _).mono ?_;rintro i Zu ⟨rfl,v⟩;refine hF ?_;intro e f c d A;have YW:t.heap.size<Zu.heap.size:=b6 c;clear v Z7;cases ZJ
  ·go_wp2;exact se
  ·cases G:bK k
   ·go_wp2_with (first | (go_at_call 139;refine(fj _ _).mono ?_;rw[G];rintro i g ⟨rfl,rfl⟩));exact se
   ·have Yv:1<=k /\ k<=4:=by rcases cG.1 G with ZI | ZI | ZI | ZI<;>omega
    have Y2:=b8 G;have Zy:=ho G;obtain⟨j,ZG⟩:∃j,aH k=j:=⟨_,I⟩;have Y9:=ab ZG;rw[ZG] at Y2 Zy;clear ZG;go_wp2_with (first | (go_at_call 139;refine(fj _ _).mono ?_;rw[G];rintro i g ⟨rfl,rfl⟩) | (at_make;refine e6 rfl _ _ rfl j _ _ rfl rfl Zy Zy E ?_;intro ZW ZX V YV;(have ZU:=ag V c);(have ZT:=ag V d);(have ZM:=aB V c e);(have ZL:=aB V d f)));have Zt:=au A V;obtain⟨u,r⟩:∃u,Zu.heap.size=u:=⟨_,I⟩;rw[r] at ZX YV YW ⊢;clear V r c d e f;have YZ:=Z4.below Zt;refine(uL 44 ZS _ E (YZ.below aD)).mono ?_;rintro i ZN ⟨K,ZV,rfl,N,Zx,Z2⟩;refine yy ?_;intro Y Q R O e f c d ZP Z1 Zp Z9 Zs;obtain⟨Z3,ZB⟩:∃Z3,(ZW.alloc (al #[M k,aq u j j] 29)).heap.size=Z3:=⟨_,I⟩;rw[ZB] at N ⊢;have YG:Y<Z3:=by rw[<- ZB,<- Z9];simp
    rw[Z9] at Q R ⊢;have YF:u<Y:=E;have YA:K<=100001:=by
     have X:=kD 44 ZS;rw[N.at.1,Zx,ec];omega
    have Y7:U (∀(b:J) q,ZV[b]? =Z q->q.size<=1048576):= λ b q H=>by
     have X:q.data.toList∈bo 44 ZS:=by
      have Z0:=List.mem_of_getElem? H;rw[Zx] at Z0;obtain⟨Ys,YX,rfl⟩:=List.mem_map.mp Z0;exact YX
     have ZZ:=nI 44 ZS _ X;rw[eE] at ZZ;omega
    have ZD:U (K=ZV.length):=N.at.1;clear Z2 O ZX ZU ZT ZM ZL ZB Zx Z9;go_wp2;go_loopw [50] (λ Zw wr=>∃(b:J) (P:ac),b<=K /\ Zw=M b /\ av wr u (aq u j j) P /\ ZN.grownBy wr (Z u)) (λ Zw _=>K-(intOf Zw).toNat)
    case atStart=>exact⟨0,_,E,I,ZP,hI _ _⟩
    case round =>
     obtain⟨b,P,YE,rfl,Z5,r⟩:=hrel;refine sE ?_;intro L w s;have Zh:=Z4.below L;refine sZ ?_;intro x y m n;by_cases YB:b<K
     ·have YD:(0:F)<=(b:F):=E;refine yJ ?_;intro q Zz Z6 H;have YI: wr.cell? (ad Z3 b)=Z (aE q):=by have:=Z6.at.2.2.2.2 b _ H;simpa using this
      have YY:=Y7.o b q H;obtain⟨Zf,rfl⟩:∃YT,q=ai YT:=⟨q.data.toList,mE q⟩;rw[bs] at YY;obtain⟨Zv,ZR,YO,Zq,Yz,Yx⟩:=qU 32 Zf;have Ze:=ab Zq;have Zj:(ai ZR).size<=1048576:=by rw[bs];omega
      clear H Zq Z6;go_wp2_with fail;refine(kv Zf 32 _ _ _ Ze.o E _ Zh).mono ?_;rintro i YR ⟨rfl,o⟩;replace w:=ag o w;replace s:=ag o s;replace x:=aB o m x;replace y:=aB o n y;replace m:=ag o m;replace n:=ag o n;go_wp2_with fail;refine(tI Zv _).mono ?_;rintro i YQ ⟨rfl,p⟩;replace w:=ag p w;replace s:=ag p s;replace x:=aB p m x;replace y:=aB p n y;replace m:=ag p m;replace n:=ag p n;have z:=au o p;have ZH:=au L z;have Yu:t.heap.size<YQ.heap.size:=b6 m;clear o p;by_cases T:∃k,Lib.atoiAll (ai ZR).data.toList=.ok k
      case neg =>
       have Z8:= λ g ZO=>ml (ai ZR) (λ k i=>T ⟨k,i⟩) Zj g ZO
       clear T;go_wp2_with fail;refine(Z8 _ (Z4.below ZH)).mono ?_;rintro i YP ⟨ZQ,Y6,rfl,a⟩;replace x:=aB a m x;replace y:=aB a n y;replace m:=ag a m;replace n:=ag a n;have Y5:=au ZH a;have YU:=a.size;clear a Z8 w s;cases Y0:eH Zv with
       | none =>
        go_wp2
        refine aK (v:=aL #[am 0 aj 0 0,aw ak]) (by simp[aJ,results50,go_sem,m,n]) I ⟨I,?_⟩
        exact aD
       | some D =>
        go_wp2
        refine aK (v:=aL #[am 0 aj 0 0,aw ak]) (by simp[aJ,results50,go_sem,m,n]) I ⟨I,?_⟩
        exact aD
      case pos =>
       obtain⟨ZQ,T⟩:=T;have Z7:= λ g=>kE (ai ZR) ZQ T Zj g
       clear T;go_wp2_with fail;refine(Z7 _).mono ?_;rintro i YP ⟨rfl,a⟩;replace x:=aB a m x;replace y:=aB a n y;replace m:=ag a m;replace n:=ag a n;replace w:=ag a w;replace s:=ag a s;have Y5:=au ZH a;have YU:=a.size;replace z:=au z a;clear a Z7;cases Y0:eH Zv with
       | none =>
        go_wp2
        refine aK (v:=aL #[am 0 aj 0 0,aw ak]) (by simp[aJ,results50,go_sem,m,n]) I ⟨I,?_⟩
        exact aD
       | some D =>
        cases ZA:bi 0 ((aH k:F)-1) (D:F)
        ·go_wp2_with (first | (go_at_call 140;refine(fh k D _ G).mono ?_;rw[ZA];rintro i g ⟨rfl,rfl⟩));refine aK (v:=aL #[am 0 aj 0 0,aw ak]) (by simp[aJ,results50,go_sem,m,n]) I ⟨I,?_⟩;exact aD
        ·have Zr:D<j:=by have X:=bM.1 ZA;have ZZ:=Y9.o;omega
         have YK:(0:F)<=(D:F):=E;have YJ:(D:F)<(j:F):=E;obtain⟨ZC,Zo,_⟩:=Z5.cellAt Zr;have Zi:=Z5.below z;replace Zo:=aB z ZC Zo;replace ZC:=ag z ZC;obtain⟨Yt,Zg,Y1,Zn⟩:=dC Zi Zr ZQ;have Zb:=ab (eO (eO r (iC z (Z u))) Zn);have Y8:=ab Zg;clear Zg Zn Zi Z5 z r;go_wp2_with (first | (go_at_call 140;refine(fh k D _ G).mono ?_;rw[ZA];rintro i g ⟨rfl,rfl⟩));rw[Y8.o];go_roundw
         case rel=>exact⟨b+1,_,E,by go_num,Y1,Zb.o⟩
         case measure=>simp[intOf];omega
     ·obtain rfl:b=K:=E;have Y3:=j5 (Za.o trivial k P);obtain⟨ZK,ZF⟩:∃ZK,bd k P=ZK:=⟨_,I⟩;have Zc:U (∀g,an g (Z (ad u 0)) j P->dp g->aC 137 #[ba #[M k,aq u j j]] g (aE (ai ZK))):= λ g X ZZ=>by rw[<- ZF];exact ma k _ _ _ P g X ZZ
      rw[ZF] at Y3;clear r c d e f Q R ZF;go_wp2_with fail;refine(Zc.o _ Z5.view Zh).mono ?_;rintro i YR ⟨rfl,o⟩;have YN:=aB o m x;have YM:=aB o n y;have c:=ag o m;have d:=ag o n;have YL:=au L o;clear o m n x y Z5 w s;go_wp2;exact se
theorem k9 (b:F) (c:aG) (d e:J) (m:ac) (a:af) (u:an a c d m):
  aC 22 #[am b c d e] a (aE (ai (bd b m))):=by
 cases w:aI b m
 ·have f:U (bd b m=[]):=by rw[U];unfold bd;rw[w];rfl
  rw[f.o];go_enter func22,ntmps22;go_wp2_with fail;refine pO ?_;rintro g k ⟨rfl,i⟩;exact sr
 ·exact Fe b c d e m a u w
theorem C0 {a e f:ax} {b:b3} (d:bo b a=[e,f]):a≠[]:=by
 intro c;subst c;cases d
def iH (a:ax):ax:=if a.head? =Z 45 then a.tail else a
theorem B6 (a:F):iH (Lib.itoa a)=Lib.decDigits a.natAbs:=by
 unfold iH;by_cases e:a<0
 ·rw[lq a e,a7 (show (45::Lib.decDigits (-a).toNat).head?=Z 45 from rfl),List.tail_cons];congr 1;omega
 ·rw[jp a E];have d:(Lib.decDigits a.toNat).head? ≠Z 45:=by
   obtain⟨f,g,h,c⟩:=lu a.toNat;exact sw
  rw[aF d];congr 1;omega
theorem B7 (neg:a8) (a:J) (k:(Lib.decDigits a).length<=17) (o:neg=ae->0<a):eV neg (Lib.decDigits a)=Z (if neg then -(a:F) else a):=by
 obtain⟨b,e,f,g⟩:=lu a;exact xP
theorem Ib (a:F) (d:(Lib.decDigits a.natAbs).length<=17):cg (Lib.itoa a)=Z a:=by
 unfold cg;by_cases f:a<0
 ·have b:(-a).toNat=a.natAbs:=E;rw[lq a f,a7 (show (45::Lib.decDigits (-a).toNat).head?=Z 45 from rfl),List.tail_cons,b,B7 ae _ d (λ _=>E)];simp;omega
 ·have b:a.toNat=a.natAbs:=E;rw[jp a E,b];have e:(Lib.decDigits a.natAbs).head? ≠Z 45:=by
   obtain⟨g,h,i,c⟩:=lu a.natAbs;exact sw
  rw[aF e,B7 ak _ d (λ b=>by cases b)];simp;omega
theorem NJ {c:ax} {d:F} (a:cg c=Z d):(iH c).length<=17:=by
 unfold cg at a;unfold iH;split at a
 ·next b =>
  rw[a7 b];exact v4
 ·next b =>
  rw[aF b];exact v4
theorem LA {a:ax} {c:F} (b:cg a=aj) (d:Lib.itoa c=a):17<(iH a).length:=by
 subst d;rw[B6];refine jJ λ e=>?_
 rw[Ib c E] at b;cases b
theorem A7 {c:ax} {e:F} (a:Lib.atoiAll c=.ok e): -9223372036854775808<=e /\ e<=9223372036854775807:=by
 cases c with
 | nil=>cases a
 | cons d c =>
  unfold Lib.atoiAll at a
  dsimp only at a
  generalize Lib.parseMag (if d.toNat=43 \/ d.toNat=45 then c else d::c)=h at a
  cases h with
  | «syntax»=>cases a
  | range=>cases a
  | ok g =>
   dsimp only at a
   by_cases f:d.toNat=45
   ·simp only[f,not_true_eq_false,false_and,if_false,true_and,if_true] at a;by_cases b:9223372036854775808<g
    ·rw[a7 b] at a;cases a
    ·rw[aF b] at a;injection a with a;omega
   ·simp only[f,not_false_eq_true,true_and,false_and,if_false] at a;by_cases b:9223372036854775808<=g
    ·rw[a7 b] at a;cases a
    ·rw[aF b] at a;injection a with a;omega
theorem Ic (a:F) (e:(Lib.decDigits a.natAbs).length<=17):Lib.atoiAll (Lib.itoa a)=.ok a:=by
 by_cases i:a<0
 ·have b:(-a).toNat=a.natAbs:=E;rw[lq a i,b,Lib.atoiAll_short _ (by simp;omega),Lib.atoi,a7 (show ((45:b3)==45)=ae from I)];unfold Lib.decNat;rw[aF (by have:=pa a.natAbs;cases e:Lib.decDigits a.natAbs with | nil=>exact bC e this | cons _ _=>simp),oJ];simp only[mI,Lib.NumEnd.ofOption];congr 1;omega
 ·have b:a.toNat=a.natAbs:=E;obtain⟨h,l,m,d⟩:=lu a.natAbs;rw[jp a E,b,Lib.atoiAll_short _ E];have g:=oJ a.natAbs;cases f:Lib.decDigits a.natAbs with
  | nil=>exact bC f (pa _)
  | cons c o =>
   rw[f] at d g
   simp only[List.head?_cons,nV] at d
   have n:c.toNat=48+h:=by rw[d];simp[mL];omega
   have k:¬(c==45)=ae:= λ b=>by have:=be UInt8.toNat (beq_iff_eq.1 b);simp at this;omega
   have j:¬(c==43)=ae:= λ b=>by have:=be UInt8.toNat (beq_iff_eq.1 b);simp at this;omega
   rw[Lib.atoi,aF k,aF j]
   unfold Lib.decNat
   rw[aF ar,g]
   simp only[mI,Lib.NumEnd.ofOption]
   congr 1;omega
theorem Lj {b:ax} {a:F} (d:cg b=Z a):Lib.atoiAll b=.ok a /\ Lib.itoa a=b /\ (iH b).length<=17 /\ -9223372036854775808<=a /\ a<=9223372036854775807:=by
 have e:=BB d;have c:=NJ d;have f:Lib.atoiAll b=.ok a:=by
  rw[<- e] at c ⊢;rw[B6] at c;exact Ic a c
 exact⟨f,e,c,A7 f⟩
theorem GD (e:ax) (g:af) (l:e.length<=200000):aY prog 265 #[aE (ai e),aE (aN #[45])] g λ c p=>c=aV (aw (decide (e.head? =Z 45))) /\ g=p:=by
 cases e with
 | nil =>
  go_enter func265,ntmps265
  go_wp2
  go_ret
  exact⟨I,I⟩
 | cons a b =>
  have m:(ai (a::b)).size=b.length+1:=by rw[bs];rfl
  have n:¬((ai (a::b)).size:F)<1:=E
  have o:(1:F)<=((ai (a::b)).size:J):=E
  have j:(ai (a::b)).extract 0 1=ai [a]:=by
   apply lN;apply Array.toList_inj.1;rw[nt,cE,cE];rfl
  by_cases d:a=45
  ·subst d;have f:U (decide ((45::b:ax).head?=Z 45)=ae):=fW I;rw[f.o];generalize ai (45::b)=i at *;go_enter func265,ntmps265;go_wp2;go_ret;exact⟨ct (by rw[mG,cE];rfl),I⟩
  ·have f:U (decide ((a::b:ax).head?=Z 45)=ak):=iP (λ c=>d (iO c));have k:((ai [a]).toList==[45])=ak:=by
    rw[dx,mG,cE];exact λ c=>d (by injection c)
   rw[f.o];clear d;generalize ai (a::b)=i at *;go_enter func265,ntmps265;exact h8
theorem Es (a:ax) (e:af) (m:a.length<=200000):aY prog 56 #[aE (ai a),aE (aN #[45])] e λ c b=>c=aV (aE (ai (iH a))) /\ e=b:=by
 have l:U (aY prog 151 #[aE (ai a),aE (aN #[45])] e λ c b=>c=aV (aE (ai (iH a))) /\ e=b):=by
  show aY prog 151 #[aE (ai a),aE (aN #[45])] e λ c b=>c=aV (aE (ai (iH a))) /\ e=b
  have g:=ab (GD a e m);by_cases f: a.head? =Z 45
  ·have i:U (iH a=a.tail):=a7 f;obtain⟨d,rfl⟩:∃d,a=45::d:=by cases a with | nil=>cases f | cons p d=>exact⟨d,by rw[iO f]⟩
   have q:U (aY prog 265 #[aE (ai (45::d)),aE (aN #[45])] e λ c b=>c=aV (aw ae) /\ e=b):=g.o;have n:(ai (45::d)).size=d.length+1:=by rw[bs];rfl
   have k:U ((ai (45::d)).extract 1 (ai (45::d)).size=ai (iH (45::d))):=by
    apply lN;apply Array.toList_inj.1;rw[qI,cE,cE,i.o]
   clear f g;generalize ai (45::d)=o at *;go_enter func151,ntmps151;go_wp2_with fail;refine q.o.mono ?_;rintro c b ⟨rfl,rfl⟩;go_wp2;go_ret;exact⟨by rw[<- k.o,n];rfl,I⟩
  ·have i:U (iH a=a):=aF f;have q:U (aY prog 265 #[aE (ai a),aE (aN #[45])] e λ c b=>c=aV (aw ak) /\ e=b):=by
    have j:=g.o;rw[iP f] at j;exact j
   rw[i.o];clear f g;go_enter func151,ntmps151;go_wp2_with fail;refine q.o.mono ?_;rintro c b ⟨rfl,rfl⟩;exact h8
 go_enter func56,ntmps56;go_wp2_with fail;refine l.o.mono ?_;rintro c b ⟨rfl,rfl⟩;exact h8
theorem DN {b:ax} (j:b.length<=100000) {e:ac} (h:bP b=Z e) (a:af) (i:dp a):
  aY prog 163 #[aE (ai b)] a λ g c=>(∃f,g=aV (aL #[f,aw ae]) /\ av c a.heap.size f e) /\ ap a c:=by
 have d:=Ak (ai b) a (by rw[bs];omega) i;rw[cE,h] at d;exact d
theorem Jb (a:ax) (o:a.length<=100000) (k:bP a=aj) (b:af) (n:dp b):
  aY prog 163 #[aE (ai a)] b λ f e=>(∃c d,f=aV (aL #[aa c 0 d,aw ak])) /\ ap b e:=by
 have g:=Ak (ai a) b (by rw[bs];omega) n;rw[cE,k] at g;refine g.mono ?_;rintro f e ⟨⟨q,i,m⟩,h⟩;obtain⟨c,p,d,rfl,j⟩:=m.ints;have l:=j.len;subst l;exact⟨⟨c,d,i⟩,h⟩
theorem B8 {a:F} (b:bH a 1=ae):bG a 1=Lib.itoa a:=by unfold bG;rw[b];rfl
theorem B9 {b a:F} (c:bH b a=ae) (d:a≠1):bG b a=Lib.itoa b++47::Lib.itoa a:=by unfold bG;rw[c,a7 rfl,aF d]
theorem oW (b:F):(47:b3)∉Lib.itoa b:=by
 have c:∀d,(47:b3)∉Lib.decDigits d:= λ d a=>by have:=(uU d _ a).1;simp at this
 exact wI
theorem zK (i:ax) (D:af) (ZH:i.length<=100000) (V:dp D):
  aY prog 158 #[aE (ai i)] D λ r p=>((∀a b,bH a b=ae->bG a b=i->r=aV (bz a b ae)) /\ ((∀a b,bH a b=ae->bG a b≠i)->r=aV (bz 0 0 ak))) /\ ap D p:=by
 obtain⟨Z6,N,Z3,hcut,ZG,ZF⟩:=qU 47 i;have ZQ:=ab hcut;have H:U (∀a b,bH a b=ae->bG a b=i->Lib.atoiAll (ai Z6).data.toList=.ok a /\ ((Z3=ae /\ Lib.atoiAll (ai N).data.toList=.ok b) \/ (Z3=ak /\ b=1))):= λ a b g j=>by
  obtain⟨ZW,ZV,ZJ,ZP⟩:=oN g;subst j;by_cases S:b=1
  ·subst S;rw[B8 g,rh 47 _ (oW a)] at hcut;injection hcut with y z
   injection z with z Z1
   subst y z Z1;exact⟨by rw[cE];exact oL a ZW ZV,Or.inr ⟨rfl,rfl⟩⟩
  ·rw[B9 g S,o9 47 _ _ (oW a)] at hcut;injection hcut with y z
   injection z with z Z1
   subst y z Z1;exact⟨by rw[cE];exact oL a ZW ZV,Or.inl ⟨rfl,by rw[cE];exact oL b E ZP⟩⟩
 clear hcut;have ZU:(ai Z6).size<=1048576:=by rw[bs];omega
 have Z2:(ai N).size<=1048576:=by rw[bs];omega
 go_enter func158,ntmps158;go_wp2_with fail;refine(kv i 47 _ _ _ ZQ.o E _ (V.below aD)).mono ?_;rintro r ZL ⟨rfl,S⟩;obtain⟨c,d,e,f⟩:=cj (D.heap.size) S ar;have l:ap D ZL:=bJ S;clear S;by_cases J:∃C,Lib.atoiAll (ai Z6).data.toList=.ok C
 case neg =>
  have X:U (∀a b,bH a b=ae->bG a b≠i):= λ a b g j=>J ⟨a,(H.o a b g j).1⟩
  have L:= λ p Y=>ml (ai Z6) (λ C r=>J ⟨C,r⟩) ZU p Y
  clear J H;go_wp2_with fail;refine(L _ (V.below l)).mono ?_;rintro r t ⟨k,ZK,rfl,v⟩;replace e:=aB v c e;replace f:=aB v d f;replace c:=ag v c;replace d:=ag v d;have A:=au l v;have ZT:D.heap.size<t.heap.size:=b6 c;clear v L;cases Z3
  ·go_wp2;refine aK (v:=bz 0 0 ak) (by simp[aJ,results158,go_sem,c,d,e,f,ZT,fr]) rfl ⟨?_,?_⟩
   ·exact⟨λ a b g j=>bC j (X.o a b g),λ _=>rfl⟩
   ·exact aD
  ·by_cases x:∃C,Lib.atoiAll (ai N).data.toList=.ok C
   case neg =>
    have L:= λ p Y=>ml (ai N) (λ C r=>x ⟨C,r⟩) Z2 p Y
    clear x;exact xT
   case pos =>
    obtain⟨m,x⟩:=x;have L:= λ p=>kE (ai N) m x Z2 p
    clear x;go_wp2_with fail;refine(L _).mono ?_;rintro r T ⟨rfl,K⟩;exact wJ
 case pos =>
  obtain⟨k,J⟩:=J;have ZB:=ab J;have Z7:= λ p=>kE (ai Z6) k J ZU p
  clear J;go_wp2_with fail;refine(Z7 _).mono ?_;rintro r t ⟨rfl,v⟩;replace e:=aB v c e;replace f:=aB v d f;replace c:=ag v c;replace d:=ag v d;have A:=au l v;have ZT:D.heap.size<t.heap.size:=b6 c;clear v Z7;cases Z3
  ·have u:U (∀a b,bH a b=ae->bG a b=i->a=k /\ b=1):= λ a b g j=>by
    obtain⟨y,z⟩:=H.o a b g j;rw[ZB.o] at y;injection y with y
    rcases z with ⟨o,_⟩ | ⟨_,o⟩
    ·cases o
    ·exact⟨y.symm,o⟩
   clear H ZB
   have P:U (∀p,aC 266 #[ba #[M k,M 1]] p (aw (bH k 1))):= λ p=>l9 k 1 p
   have O:=ab (λ p (ZY:hC p)=>ti k 1 p ZY)
   by_cases w:bH k 1=ae
   ·rw[w] at P;by_cases q:bG k 1=i
    ·rw[q] at O;have Q:U ((∀a b,bH a b=ae->bG a b=i->aV (bz k 1 ae)=aV (bz a b ae)) /\ ((∀a b,bH a b=ae->bG a b≠i)->aV (bz k 1 ae)=aV (bz 0 0 ak))):=⟨λ a b g j=>by obtain⟨rfl,rfl⟩:=u.o a b g j;rfl,λ o=>bC q (o _ _ w)⟩;have Z4:((ai i).toList==(ai i).toList)=ae:=beq_self_eq_true _;clear w q u;go_wp2_with fail;refine(P.o _).mono ?_;rintro r F ⟨rfl,s⟩;have B:=aS s t.heap.size 0 (M k);have G:=aS s t.heap.size 1 (M 1);have n:ap t F:=bJ s;replace e:=aB n c e;replace f:=aB n d f;replace c:=ag n c;replace d:=ag n d;have W:=au A n;clear s n;go_wp2_with fail;refine(O.o _ (V.below W).pow).mono ?_;rintro r Z5 ⟨rfl,R⟩;replace B:=ag R B;replace G:=ag R G;replace e:=aB R c e;replace f:=aB R d f;replace c:=ag R c;replace d:=ag R d;have ZZ:=au W R;have ZS:D.heap.size<Z5.heap.size:=b6 c;clear R;go_wp2;refine aK (v:=bz k 1 ae) (by simp[aJ,results158,go_sem,c,d,e,f]) rfl ⟨?_,?_⟩
     ·exact Q.o
     ·exact aD
    ·have X:U (∀a b,bH a b=ae->bG a b≠i):= λ a b g j=>by obtain⟨rfl,rfl⟩:=u.o a b g j;exact q j
     have Z0:((ai (bG k 1)).toList==(ai i).toList)=ak:=j5 q;clear w q u;obtain⟨Z9,Z8⟩:∃Z9,bG k 1=Z9:=⟨_,rfl⟩;rw[Z8] at O Z0;clear Z8;go_wp2_with fail;refine(P.o _).mono ?_;rintro r F ⟨rfl,s⟩;have B:=aS s t.heap.size 0 (M k);have G:=aS s t.heap.size 1 (M 1);exact wp
   ·exact wu
  ·by_cases x:∃C,Lib.atoiAll (ai N).data.toList=.ok C
   case neg =>
    have X:U (∀a b,bH a b=ae->bG a b≠i):= λ a b g j=>by
     rcases(H.o a b g j).2 with ⟨_,o⟩ | ⟨o,_⟩
     ·exact x ⟨b,o⟩
     ·cases o
    have L:= λ p Y=>ml (ai N) (λ C r=>x ⟨C,r⟩) Z2 p Y
    clear x H ZB;exact xT
   case pos =>
    obtain⟨m,x⟩:=x;have u:U (∀a b,bH a b=ae->bG a b=i->a=k /\ b=m):= λ a b g j=>by
     obtain⟨y,z⟩:=H.o a b g j;rw[ZB.o] at y;injection y with y
     rcases z with ⟨_,o⟩ | ⟨o,_⟩
     ·rw[x] at o;injection o with o
      exact⟨y.symm,o.symm⟩
     ·cases o
    have Z7:= λ p=>kE (ai N) m x Z2 p
    clear x H ZB;go_wp2_with fail;refine(Z7 _).mono ?_;rintro r T ⟨rfl,K⟩;obtain⟨ZX,ZR,ZO,ZN⟩:=cj t.heap.size K rfl;have ZI:ap t T:=bJ K;have ZM:t.heap.size<T.heap.size:=b6 ZX;clear K Z7;have P:U (∀p,aC 266 #[ba #[M k,M m]] p (aw (bH k m))):= λ p=>l9 k m p
    have O:=ab (λ p (ZY:hC p)=>ti k m p ZY);by_cases w:bH k m=ae
    ·rw[w] at P;by_cases q:bG k m=i
     ·rw[q] at O;have Q:U ((∀a b,bH a b=ae->bG a b=i->aV (bz k m ae)=aV (bz a b ae)) /\ ((∀a b,bH a b=ae->bG a b≠i)->aV (bz k m ae)=aV (bz 0 0 ak))):=⟨λ a b g j=>by obtain⟨rfl,rfl⟩:=u.o a b g j;rfl,λ o=>bC q (o _ _ w)⟩;have Z4:((ai i).toList==(ai i).toList)=ae:=beq_self_eq_true _;clear w q u;go_wp2_with fail;refine(P.o _).mono ?_;rintro r F ⟨rfl,s⟩;have B:=ag s (a:=(ad t.heap.size 0)) (v:=M k) ((c3 _ _ _ _ ar).trans ZX);have G:=ag s (a:=(ad t.heap.size 1)) (v:=M m) (fZ _ _ _ ZR);have n:ap t F:=bJ s;replace e:=aB n c e;replace f:=aB n d f;replace c:=ag n c;replace d:=ag n d;have W:=au A n;clear s n;go_wp2_with fail;refine(O.o _ (V.below W).pow).mono ?_;rintro r Z5 ⟨rfl,R⟩;replace B:=ag R B;replace G:=ag R G;replace e:=aB R c e;replace f:=aB R d f;replace c:=ag R c;replace d:=ag R d;have ZZ:=au W R;have ZS:D.heap.size<Z5.heap.size:=b6 c;clear R;go_wp2;refine aK (v:=bz k m ae) (by simp[aJ,results158,go_sem,c,d,e,f]) rfl ⟨?_,?_⟩
      ·exact Q.o
      ·exact aD
     ·have X:U (∀a b,bH a b=ae->bG a b≠i):= λ a b g j=>by obtain⟨rfl,rfl⟩:=u.o a b g j;exact q j
      have Z0:((ai (bG k m)).toList==(ai i).toList)=ak:=j5 q;clear w q u;obtain⟨Z9,Z8⟩:∃Z9,bG k m=Z9:=⟨_,rfl⟩;rw[Z8] at O Z0;clear Z8;go_wp2_with fail;refine(P.o _).mono ?_;rintro r F ⟨rfl,s⟩;have B:=ag s (a:=(ad t.heap.size 0)) (v:=M k) ((c3 _ _ _ _ ar).trans ZX);have G:=ag s (a:=(ad t.heap.size 1)) (v:=M m) (fZ _ _ _ ZR);exact wp
    ·exact wu
theorem DO (a b:F) (c:af) (e:bH a b=ae) (f:dp c):
  aC 158 #[aE (ai (bG a b))] c (bz a b ae) :=
 (zK _ c (by have:=q4 a b;omega) f).mono λ _ _ d=>⟨d.1.1 a b e I,d.2⟩
theorem ET (a:ax) (b:af) (f:a.length<=100000) (g:∀c d,bH c d=ae->bG c d≠a) (h:dp b):
  aC 158 #[aE (ai a)] b (bz 0 0 ak) :=
 (zK a b f h).mono λ _ _ e=>⟨e.1.2 g,e.2⟩
def kT (c:J) (e:Option (ac)) (d:ax):Option (ac):=match e with
 | none=>aj
 | some b=>match jz d with
  | none=>aj
  | some (a,f)=>if a<c then Z (b.set a f) else aj
def gI (a:J) (b:aU (ax)):Option (ac):=b.foldl (kT a) (Z (bE a 0))
theorem LB (b:J) (a:aU (ax)):a.foldl (kT b) aj=aj:=by
 induction a with
 | nil=>rfl
 | cons e d c=>exact c
theorem Cs (a:J) {c:aU (ax)} {b:J} {d:ax} (e:c[b]? =Z d):gI a (c.take (b+1))=kT a (gI a (c.take b)) d:=by
 unfold gI;rw[kO,e,List.foldl_append];rfl
theorem Ct (a:J) {b:aU (ax)} (c:J) (e:gI a (b.take c)=aj):gI a b=aj:=by
 have d:gI a b=(b.drop c).foldl (kT a) (gI a (b.take c)):=by
  unfold gI;rw[<- List.foldl_append,List.take_append_drop]
 rw[d,e,LB]
theorem LC {e:F} {a:ac} (m:aI e a=ae):gI (aH e) (dM a)=Z a:=by
 obtain⟨t,l,q,j,_⟩:=cv m;have p:∀b,b<=(bQ a a.length).length->gI (aH e) ((dM a).take b)=Z (i8 a (bQ a a.length) a.length b):=by
  intro b;induction b with
  | zero=>intro _;rw[List.take_zero,<- l];rfl
  | succ b o =>
   intro s
   have d:b<(bQ a a.length).length:=E
   have r:=mm (List.getElem_mem d)
   obtain⟨c,g⟩:∃c:J,(bQ a a.length)[b]=(c:F):=⟨((bQ a a.length)[b]).toNat,E⟩
   have i:c<a.length:=E
   have n:O (bQ a a.length) b=(c:F):=by rw[cK _ _ d,g]
   have k:(dM a)[b]? =Z (di a (c:F)):=by unfold dM;rw[jE,fV d,g];rfl
   rw[Cs _ k,o E,qK,n,cI]
   unfold kT
   have h:=j c i
   rw[Mc E h.1 h.2]
   simp only
   rw[a7 E]
 have f:=p _ aZ;rw[CS,jF (by unfold dM;rw[ec];exact bL _)] at f;exact f
theorem Lk {n:F} {e:ac} (m:aI n e=ae):(58:b3)∉Lib.join (dM e) [44]:= λ l=>by
 obtain⟨q,p,o,k,_⟩:=cv m;have f:=Ga (P:= λ h=>h≠58) (ws:=dM e) (sep:=[44]) (λ r d i c b=>by
  unfold dM at d;rw[List.mem_map] at d;obtain⟨g,j,rfl⟩:=d;have f:=mm j;subst b;rcases Aq E (k g.toNat E).1 c with a | a | a | a
  ·exact bC a aX
  ·exact bC a aX
  ·have:(58:b3).toNat=58:=rfl;omega
  ·have:(58:b3).toNat=58:=rfl;omega) (λ i c b=>by subst b;simp at c) 58 l
 exact f I
theorem Ie {a:F} {d:ac} (c:aI a d=ae):bo 58 (bd a d)=[Lib.itoa a,Lib.join (dM d) [44]]:=by
 have e:=(cv c).1;have f:1<=a:=by rcases cG.1 e with b | b | b | b<;>omega
 unfold bd;rw[a7 c,j2 58 _ _ (CR E),ky 58 _ (Lk c)]
theorem Ll {e:ax} {g:F} {b:ac} (a:aI g b=ae) (r:bd g b=e):∃c d,bo 58 e=[c,d] /\ cg c=Z g /\ bK g=ae /\ gI (aH g) (bo 44 d)=Z b:=by
 subst r;have o:=(cv a).1;refine l2 ?_;intro D;exact⟨_,_,Ie a,nm _ E E,o,by rw[Bv a];exact LC a⟩
theorem Jc {c:ax} {a:F} {b:ac} (d:bd a b=c) (f:c≠[]):aI a b=ae:=by
 cases e:aI a b
 ·exact bC (d.symm.trans (by unfold bd;rw[e];rfl)) f
 ·rfl
theorem zL (v:ax) (t:af) (Yt:v.length<=100000):
  aY prog 39 #[aE (ai v)] t λ i C=>((∀a g,aI a g=ae->bd a g=v->∃k,i=aV (aL #[ba #[M a,k],aw ae]) /\ av C t.heap.size k g) /\ ((∀a g,aI a g=ae->bd a g≠v)->i=aV (aL #[am 0 aj 0 0,aw ak]))) /\ ap t C:=by
 have X:U (∀a g,aI a g=ae->bd a g=v->∃Z7 G,bo 58 v=[Z7,G] /\ cg Z7=Z a /\ bK a=ae /\ gI (aH a) (bo 44 G)=Z g):= λ a g l z=>Ll l z
 go_enter func39,ntmps39;go_wp2_with fail;refine(oG (ai v) 58 58 I _ (by rw[bs];omega)).mono ?_;rintro i Zm ⟨YE,s,YG,Ym,rfl,N,P,Zw⟩;rw[cE] at P;obtain⟨c,d,e,f⟩:=cj (t.heap.size) Zw ar;have YQ:ap t Zm:=bJ Zw;have YL:t.heap.size<Zm.heap.size:=b6 c;obtain⟨Y4,Yr,Yz,Yy,ZE⟩:=N.at;clear Zw;by_cases z:s=2
 case neg =>
  have S:U (∀a g,aI a g=ae->bd a g≠v):= λ a g l A=>by
   obtain⟨Z7,G,B,_⟩:=X.o a g l A;rw[B] at P;have p:=be List.length P;rw[ec] at p;simp at p;omega
  have YP:((s:F) != 2)=ae:=by rw[bne_iff_ne];omega
  clear P ZE N z X;go_wp2;refine aK (v:=aL #[am 0 aj 0 0,aw ak]) (by simp[aJ,results39,go_sem,c,d,e,f]) I ⟨⟨λ a g l z=>bC z (S.o a g l),λ _=>rfl⟩,?_⟩;exact aD
 case pos =>
  subst z;obtain⟨Z7,G,rfl,Zr⟩:=uv P Y4.symm;have Za:=ZE 0 _ I;have ZF:=ZE 1 _ I;rw[Nat.zero_add] at Za ZF;have Z5:=ab Zr;have Zu:(Lib.join [Z7,G] [58]).length=v.length:=by rw[<- Zr,nE 58 v]
  have Yq:Z7.length<=v.length /\ G.length<=v.length:=by
   rw[Lib.join_cons] at Zu;simp[Lib.joinTail] at Zu;omega
  clear P ZE N Y4 Zr Zu;go_wp2_with fail;refine(ku (ai Z7) _ (by rw[bs];omega)).mono ?_;rw[cE];rintro i Yo ⟨rfl,rfl⟩;cases ZY:cg Z7 with
  | none =>
   have S:U (∀a g,aI a g=ae->bd a g≠v):= λ a g l A=>by
    obtain⟨Zl,Zk,B,p,_⟩:=X.o a g l A;rw[Z5.o] at B;injection B with B _
    rw[<- B,ZY] at p;cases p
   clear ZY X Z5
   go_wp2
   refine aK (v:=aL #[am 0 aj 0 0,aw ak]) (by simp[aJ,results39,go_sem,c,d,e,f]) I ⟨⟨λ a g l z=>bC z (S.o a g l),λ _=>rfl⟩,?_⟩
   exact aD
  | some k =>
   cases Z8:bK k
   ·have S:U (∀a g,aI a g=ae->bd a g≠v):= λ a g l A=>by
     obtain⟨Zl,Zk,B,p,Z4,_⟩:=X.o a g l A;rw[Z5.o] at B;injection B with B _
     rw[<- B,ZY] at p;injection p with p
     rw[<- p,Z8] at Z4;cases Z4
    clear ZY X Z5
    go_wp2_with (first | (go_at_call 93;refine(kq _ _).mono ?_;rw[Z8];rintro i C ⟨rfl,rfl⟩))
    refine aK (v:=aL #[am 0 aj 0 0,aw ak]) (by simp[aJ,results39,go_sem,c,d,e,f]) I ⟨⟨λ a g l z=>bC z (S.o a g l),λ _=>rfl⟩,?_⟩
    exact aD
   ·have Yp:1<=k /\ k<=4:=by rcases cG.1 Z8 with T | T | T | T<;>omega
    have YO:=b8 Z8;have ZO:=ho Z8;have Z0:U (∀a g,aI a g=ae->bd a g=v->a=k /\ gI (aH k) (bo 44 G)=Z g):= λ a g l A=>by
     obtain⟨Zl,Zk,B,p,Z4,ZB⟩:=X.o a g l A;rw[Z5.o] at B;injection B with B ZA
     injection ZA with ZA _
     rw[<- B,ZY] at p;injection p with p
     subst p ZA;exact⟨I,ZB⟩
    have YT:U (v≠[]):=C0 Z5.o;obtain⟨j,ZH⟩:∃j,aH k=j:=⟨_,I⟩;have YV:U (∀D:J,D<j->b4 k (D:F)=ae):= λ D T=>by
     unfold b4;rw[Z8,eo,ZH];clear ZO;exact bM.2 ⟨Int.natCast_nonneg _,E⟩
    have YW:U (∀D:J,b4 k (D:F)=ae->D<j):= λ D T=>by
     unfold b4 at T;rw[Z8,eo,ZH] at T;clear ZO;have A:=bM.1 T;omega
    rw[ZH] at YO ZO Z0;clear ZH ZY X Z5;go_wp2_with (first | (go_at_call 93;refine(kq _ _).mono ?_;rw[Z8];rintro i C ⟨rfl,rfl⟩) | (at_make;refine e6 rfl _ _ rfl j _ _ rfl rfl ZO ZO E ?_;intro ZW ZX Z3 YK;(have ZU:=ag Z3 c);(have ZT:=ag Z3 d);(have ZM:=aB Z3 c e);(have ZL:=aB Z3 d f);(replace ZF:=ag Z3 ZF)));have Zt:=au YQ Z3;obtain⟨u,r⟩:∃u,Zm.heap.size=u:=⟨_,I⟩;rw[r] at ZX YK YL ⊢;clear Z3 r c d e f Za;refine(oG (ai G) 44 44 I _ (by rw[bs];omega)).mono ?_;rintro i ZN ⟨Ze,K,YF,ZV,rfl,N,P,Z2⟩;rw[cE] at P;refine yy ?_;intro Y Q R O e f c d ZP Z1 Zp Z9 Zs;have Yx:Y<Ze:=by have:=(N.block _ I).1;simp at this;omega
    rw[Z9] at Q R ⊢;have Yw:u<Y:=E;have Ys:K<=100001:=by
     have l:=kD 44 G;rw[<- P,ec] at l;rw[N.at.1];omega
    have Zf:U (∀(b:J) q,ZV[b]? =Z q->q.size<=1000000 /\ (bo 44 G)[b]? =Z q.data.toList):= λ b q H=>by
     have ZI:(bo 44 G)[b]? =Z q.data.toList:=by rw[<- P,jE,H];rfl
     have z:=nI 44 G _ (List.mem_of_getElem? ZI);rw[eE] at z;exact⟨E,ZI⟩
    have ZD:U (K=ZV.length):=N.at.1;have Zh:U ((bo 44 G).length=K):=by rw[<- P,ec];exact ZD.o.symm
    obtain⟨ZR,Y9⟩:∃Zn,bo 44 G=Zn:=⟨_,I⟩;rw[Y9] at Z0 Zf Zh;clear Z2 O ZX ZU ZT ZM ZL P Z9 Y9 ZF;go_wp2;go_loopw [9] (λ Zo wr=>∃(b:J) (W:ac),b<=K /\ Zo=M b /\ av wr u (aq u j j) W /\ ZN.grownBy wr (Z u) /\ U (gI j (ZR.take b)=Z W)) (λ Zo _=>K-(intOf Zo).toNat)
    case atStart=>exact⟨0,_,E,I,ZP,hI _ _,I⟩
    case round =>
     obtain⟨b,W,Yv,rfl,V,r,Zg⟩:=hrel;refine sE ?_;intro L w s;refine sZ ?_;intro x y m n;clear c d e f;by_cases Y5:b<K
     ·have Yu:(0:F)<=(b:F):=E;refine yJ ?_;intro q Zz Z6 H;have YA: wr.cell? (ad Ze b)=Z (aE q):=by have:=Z6.at.2.2.2.2 b _ H;simpa using this
      obtain⟨Y1,Zq⟩:=Zf.o b q H;obtain⟨YI,rfl⟩:∃Zn,q=ai Zn:=⟨q.data.toList,mE q⟩;rw[bs] at Y1;rw[cE] at Zq;have ZJ:=ab (Cs j Zq);rw[Zg.o] at ZJ;clear H Z6 Zq;go_wp2_with fail;refine(Ia YI _ Y1).mono ?_;rintro i YZ ⟨⟨D,YY,YJ,rfl,Y8,YD⟩,o⟩;replace w:=ag o w;replace s:=ag o s;have Zd:=aB o m x;have Zc:=aB o n y;have c:=ag o m;have d:=ag o n;have Zb:=au L o;have Y0:=o.size;have ZC:=ab Y8;clear Y8 m n x y;cases YJ
      ·have S:U (∀a g,aI a g=ae->bd a g≠v):= λ a g l A=>by
        obtain⟨rfl,p⟩:=Z0.o a g l A;have Z4:gI j (ZR.take (b+1))=aj:=by rw[ZJ.o];unfold kT;rw[ZC.o];rfl
        rw[Ct j _ Z4] at p;cases p
       go_wp2
       obtain⟨e,f⟩:=gC Zd Zc
       refine aK (v:=aL #[am 0 aj 0 0,aw ak]) (by simp[aJ,results39,go_sem,c,d,e,f]) I ⟨⟨λ a g l z=>bC z (S.o a g l),λ _=>rfl⟩,?_⟩
       exact aD
      ·cases ZQ:b4 k (D:F)
       ·have S:U (∀a g,aI a g=ae->bd a g≠v):= λ a g l A=>by
         obtain⟨rfl,p⟩:=Z0.o a g l A;have Z4:gI j (ZR.take (b+1))=aj:=by
          rw[ZJ.o];unfold kT;rw[ZC.o];simp only[if_true];rw[aF];intro Y5;have ZB:=YV.o D Y5;rw[ZB] at ZQ;cases ZQ
         rw[Ct j _ Z4] at p;cases p
        go_wp2_with (first | (go_at_call 95;refine(ni _ _ _).mono ?_;rw[ZQ];rintro i C ⟨rfl,rfl⟩))
        obtain⟨e,f⟩:=gC Zd Zc
        refine aK (v:=aL #[am 0 aj 0 0,aw ak]) (by simp[aJ,results39,go_sem,c,d,e,f]) I ⟨⟨λ a g l z=>bC z (S.o a g l),λ _=>rfl⟩,?_⟩
        exact aD
       ·have Zx:=YW.o D ZQ;have YC:(0:F)<=(D:F):=E;have YB:(D:F)<(j:F):=E;obtain⟨Zv,Y7,_⟩:=V.cellAt Zx;have Y3:=V.below o;replace Y7:=aB o Zv Y7;replace Zv:=ag o Zv;obtain⟨Yn,Y2,YM,Y6⟩:=dC Y3 Zx YY;have YX:=ab (eO (eO r (iC o (Z u))) Y6);have YR:=ab Y2;have YU:U (gI j (ZR.take (b+1))=Z (W.set D YY)):=by
         rw[U,ZJ.o];unfold kT;rw[ZC.o];simp only[if_true];rw[a7 Zx]
        clear Y2 Y6 Y3 V o r;go_wp2_with (first | (go_at_call 95;refine(ni _ _ _).mono ?_;rw[ZQ];rintro i C ⟨rfl,rfl⟩));rw[YR.o];go_roundw
        case rel=>exact⟨b+1,_,E,by go_num,YM,YX.o,YU⟩
        case measure=>simp[intOf];omega
     ·obtain rfl:b=K:=E;have ZK:U (gI j ZR=Z W):=by have ZI:=Zg.o;rwa [jF (by rw[Zh.o];exact bL _)] at ZI
      obtain⟨ZZ,Zy⟩:∃ZZ,bd k W=ZZ:=⟨_,I⟩;have Zi:U (∀C,an C (Z (ad u 0)) j W->aC 22 #[ba #[M k,aq u j j]] C (aE (ai ZZ))):= λ C l=>by rw[<- Zy];exact k9 k _ _ _ W C l
      have ZS:=ab Zy;clear r Q R Zy;by_cases ZG:ZZ=v
      ·subst ZG;go_wp2_with fail;refine(Zi.o _ V.view).mono ?_;rintro i YZ ⟨rfl,o⟩;replace w:=ag o w;replace s:=ag o s;have e:=aB o m x;have f:=aB o n y;have c:=ag o m;have d:=ag o n;have Zb:=au L o;have Y0:=o.size;have YN:=V.below o;have YS:U (∀C,av C u (aq u j j) W->(∀a g,aI a g=ae->bd a g=ZZ->∃Zj,aV (aL #[ba #[M k,aq u j j],aw ae])=aV (aL #[ba #[M a,Zj],aw ae]) /\ av C t.heap.size Zj g) /\ ((∀a g,aI a g=ae->bd a g≠ZZ)->aV (aL #[ba #[M k,aq u j j],aw ae])=aV (aL #[am 0 aj 0 0,aw ak]))):= λ C V=>⟨λ a g l A=>by
        obtain⟨rfl,p⟩:=Z0.o a g l A;rw[ZK.o] at p;injection p with p
        subst p;exact⟨_,I,V.mono E⟩,λ T=>bC ZS.o (T _ _ (Jc ZS.o YT.o))⟩
       clear o m n x y V ZK ZS;go_wp2;refine aK (v:=aL #[ba #[M k,aq u j j],aw ae]) (by simp[aJ,results39,go_sem,c,d,e,f]) I ⟨YS.o _ ((YN.setBelow (a:=(ad t.heap.size 0)) (by simp;omega) _).setBelow (a:=(ad t.heap.size 1)) (by simp;omega) _),?_⟩;exact aD
      ·have S:U (∀a g,aI a g=ae->bd a g≠v):= λ a g l A=>by
        obtain⟨rfl,p⟩:=Z0.o a g l A;rw[ZK.o] at p;injection p with p
        subst p;exact ZG (ZS.o.symm.trans A)
       have YP:=j5 ZG
       clear ZG ZK ZS
       go_wp2_with fail
       refine(Zi.o _ V.view).mono ?_;rintro i YZ ⟨rfl,o⟩
       have e:=aB o m x
       have f:=aB o n y
       have c:=ag o m
       have d:=ag o n
       have Zb:=au L o
       have Y0:=o.size
       clear o m n x y V w s
       go_wp2
       refine aK (v:=aL #[am 0 aj 0 0,aw ak]) (by simp[aJ,results39,go_sem,c,d,e,f]) I ⟨⟨λ a g l z=>bC z (S.o a g l),λ _=>rfl⟩,?_⟩
       exact aD
theorem DR (a:F) (b:ac) (c:af) (h:aI a b=ae):
  aY prog 39 #[aE (ai (bd a b))] c λ g d=>(∃f,g=aV (aL #[ba #[M a,f],aw ae]) /\ av d c.heap.size f b) /\ ap c d :=
 (zL _ c (by have:=hJ a b;omega)).mono λ _ _ e=>⟨e.1.1 a b h I,e.2⟩
theorem D2 (a:ax) (d:af) (f:a.length<=100000) (g:∀c e,aI c e=ae->bd c e≠a):
  aC 39 #[aE (ai a)] d (aL #[am 0 aj 0 0,aw ak]) :=
 (zL a d f).mono λ _ _ b=>⟨b.1.2 g,b.2⟩
theorem th (b c:F) (a:af):
  aC 71 #[ba #[M b,M c]] a (aE (ai (bG b c))):=by
 cases d:bH b c
 ·have e:U (bG b c=[]):=by rw[U];unfold bG;rw[d];rfl
  rw[e.o];go_enter func71,ntmps71;go_wp2_with fail;refine(oz b c _).mono ?_;rw[d];rintro f k ⟨rfl,i⟩;exact sr
 ·exact DZ b c a d
theorem zH (i:ax) (D:af) (Zo:i.length<=100000):
  aY prog 98 #[aE (ai i)] D λ s G=>((∀a b,bH a b=ae->bG a b=i->s=aV (bz a b ae)) /\ ((∀a b,bH a b=ae->bG a b≠i)->s=aV (bz 0 0 ak))) /\ ap D G:=by
 have T:U (∀a b,bH a b=ae->bG a b=i->(bo 47 i=[i] /\ b=1 /\ cg i=Z a) \/ (∃r p,bo 47 i=[r,p] /\ cg r=Z a /\ cg p=Z b)):= λ a b g j=>by
  obtain⟨ZH,ZG,Zs,ZB⟩:=oN g;subst j;by_cases ZE:b=1
  ·subst ZE;left;rw[B8 g,ky 47 _ (oW a)];exact⟨rfl,rfl,nm a ZH ZG⟩
  ·right;rw[B9 g ZE,j2 47 _ _ (oW a),ky 47 _ (oW b)];exact⟨_,_,rfl,nm a ZH ZG,nm b E ZB⟩
 go_enter func98,ntmps98;go_wp2_with fail;refine(oG (ai i) 47 47 rfl _ (by rw[bs];omega)).mono ?_;rintro s x ⟨ZT,ZX,Zq,Zv,rfl,Z7,R,ZS⟩;rw[cE] at R;obtain⟨c,d,e,f⟩:=cj (D.heap.size) ZS ar;have O:ap D x:=bJ ZS;obtain⟨Z0,Zn,ZD,Zp,Z8⟩:=Z7.at;clear ZS;by_cases j:ZX=2
 case pos =>
  subst j;obtain⟨r,p,rfl,K⟩:=uv R Z0.symm;have Z3:=Z8 0 _ rfl;have Z2:=Z8 1 _ rfl;rw[Nat.zero_add] at Z3 Z2;have y:U (∀a b,bH a b=ae->bG a b=i->cg r=Z a /\ cg p=Z b):= λ a b g l=>by
   rcases T.o a b g l with ⟨v,_⟩ | ⟨ZJ,ZI,v,J,ZV⟩
   ·rw[K] at v;cases v
   ·rw[K] at v;injection v with v ZU
    injection ZU with ZU _
    subst v ZU;exact⟨J,ZV⟩
  have N:U (i=[]->cg r=aj):= λ o=>bC o (C0 K)
  have ZQ:(Lib.join [r,p] [47]).length=i.length:=by rw[<- K,nE 47 i]
  have Zx:r.length<=i.length /\ p.length<=i.length:=by
   rw[Lib.join_cons] at ZQ;simp[Lib.joinTail] at ZQ;omega
  clear R Z8 Z7 Z0 K ZQ T;have ZK:=O;have Z6:D.heap.size<x.heap.size:=b6 c;go_wp2_with fail;refine(ku (ai r) _ (by rw[bs];omega)).mono ?_;rw[cE];rintro s ZM ⟨rfl,rfl⟩;go_wp2_with fail;refine(ku (ai p) _ (by rw[bs];omega)).mono ?_;rw[cE];rintro s ZM ⟨rfl,rfl⟩;clear Z3 Z2;cases z:cg r with
  | none =>
   have B:U (∀a b,bH a b=ae->bG a b≠i):= λ a b g j=>by
    have l:=(y.o a b g j).1;rw[z] at l;cases l
   clear z y N
   go_wp2
   refine aK (v:=bz 0 0 ak) (by simp[aJ,results98,go_sem,c,d,e,f,Z6,fr]) rfl ⟨?_,?_⟩
   ·exact⟨λ a b g j=>bC j (B.o a b g),λ _=>rfl⟩
   ·exact aD
  | some k =>
   have ZC:U (i≠[]):= λ o=>by have:=N.o o;rw[z] at this;cases this
   clear N
   cases L:cg p with
   | none =>
    have B:U (∀a b,bH a b=ae->bG a b≠i):= λ a b g j=>by
     have l:=(y.o a b g j).2;rw[L] at l;cases l
    clear z L y
    go_wp2
    refine aK (v:=bz 0 0 ak) (by simp[aJ,results98,go_sem,c,d,e,f,Z6,fr]) rfl ⟨?_,?_⟩
    ·exact⟨λ a b g j=>bC j (B.o a b g),λ _=>rfl⟩
    ·exact aD
   | some m =>
    have u:U (∀a b,bH a b=ae->bG a b=i->a=k /\ b=m):= λ a b g j=>by
     exact vl
    have H:U (∀G,aC 71 #[ba #[M k,M m]] G (aE (ai (bG k m)))):= λ G=>th k m G
    clear z L y
    by_cases q:bG k m=i
    ·rw[q] at H;have w:bH k m=ae:=by
      exact we
     have Q:U ((∀a b,bH a b=ae->bG a b=i->aV (bz k m ae)=aV (bz a b ae)) /\ ((∀a b,bH a b=ae->bG a b≠i)->aV (bz k m ae)=aV (bz 0 0 ak))):=⟨λ a b g j=>by obtain⟨rfl,rfl⟩:=u.o a b g j;rfl,λ o=>bC q (o _ _ w)⟩;have Z4:((ai i).toList==(ai i).toList)=ae:=beq_self_eq_true _;clear w q u;go_wp2_with fail;refine(H.o _).mono ?_;rintro s S ⟨rfl,t⟩;have ZO:=aS t x.heap.size 0 (M k);have ZN:=aS t x.heap.size 1 (M m);have n:ap x S:=bJ t;exact vn
    ·have B:U (∀a b,bH a b=ae->bG a b≠i):= λ a b g j=>by obtain⟨rfl,rfl⟩:=u.o a b g j;exact q j
     have ZZ:((ai (bG k m)).toList==(ai i).toList)=ak:=j5 q;clear q u;obtain⟨Y,Z9⟩:∃Y,bG k m=Y:=⟨_,rfl⟩;rw[Z9] at H ZZ;clear Z9;go_wp2_with fail;refine(H.o _).mono ?_;rintro s S ⟨rfl,t⟩;have ZO:=aS t x.heap.size 0 (M k);have ZN:=aS t x.heap.size 1 (M m);have n:ap x S:=bJ t;exact xH
 case neg =>
  by_cases g:ZX=1
  case neg =>
   have B:U (∀a b,bH a b=ae->bG a b≠i):= λ a b l X=>by
    have J:=be List.length R;rw[ec] at J;rcases T.o a b l X with ⟨v,_⟩ | ⟨ZJ,ZI,v,_⟩
    ·rw[v] at J;simp at J;omega
    ·rw[v] at J;simp at J;omega
   have ZZ:((ZX:F) != 2)=ae:=by rw[bne_iff_ne];omega
   have Zm:((ZX:F)==1)=ak:=by rw[dx];omega
   clear R Z8 Z7 g j T;exact vx
  case pos =>
   subst g;obtain⟨ZL,rfl⟩:∃m,Zv=[m]:=List.length_eq_one_iff.1 Z0.symm;obtain⟨r,rfl⟩:∃Zw,ZL=ai Zw:=⟨ZL.data.toList,mE ZL⟩;have K:bo 47 i=[r]:=by rw[<- R,List.map_cons,cE];rfl
   obtain⟨p,ZY⟩:∃p:ax,p=[49]:=⟨_,rfl⟩;have Zl:aN #[49]=ai p:=by rw[ZY];rfl
   have ZW:U (r=i):=by
    have l:=nE 47 i;rw[K,Lib.join_one] at l;exact l
   have y:U (∀a b,bH a b=ae->bG a b=i->cg r=Z a /\ cg p=Z b):= λ a b g l=>by
    rcases T.o a b g l with ⟨v,J,ZV⟩ | ⟨ZJ,ZI,v,_⟩
    ·rw[ZW.o,J,ZY];exact⟨ZV,cS⟩
    ·rw[K] at v;cases v
   have N:U (i=[]->cg r=aj):= λ o=>by rw[ZW.o,o];rfl
   have Zx:r.length<=i.length /\ p.length<=i.length+1:=by
    rw[ZW.o,ZY];exact⟨bL _,ar⟩
   have Zz:ZT≠D.heap.size:=by simp at ZD;omega
   have Z1:D.heap.size≠ZT:= λ s=>Zz s.symm
   clear R Z8 Z0 K T ZY j;have P:=az x (al #[aE (ai p)] 9);go_wp2_with (at_builtin;refine qj rfl _ _ rfl _ _ _ 1 rfl a6 (Z7.below P) _ _ (ai p) a6 ar E (by have:=O.size;simp;omega) ?_;intro ZF Zr A ZP W ZA;(have Z3: A.cell? (ad ZF 0)=Z (aE (ai r)):=ZP.at.2.2.2.2 0 (ai r) rfl);(have Z2: A.cell? (ad ZF 1)=Z (aE (ai p)):=ZP.at.2.2.2.2 1 (ai p) rfl));have Z5:D.heap.size<x.heap.size:=b6 c;have V:∀C,C<x.heap.size->C≠ZT->A.heap[C]? =x.heap[C]? := λ C ZR Zy=>(W.block C (by simp;omega) (λ s=>by injection s with s;exact Zy s)).trans (P.block C ZR)
   replace e:=(gK (o:=0) (V _ Z5 Z1)).trans e;replace f:=(gK (o:=1) (V _ Z5 Z1)).trans f;replace c:=(eR (o:=0) (V _ Z5 Z1)).trans c;replace d:=(eR (o:=1) (V _ Z5 Z1)).trans d;have ZK:ap D A:=⟨(W.os.trans P.os).trans O.os,(W.tape.trans P.tape).trans O.tape,(W.output.trans P.output).trans O.output,ez O.size (ez P.size W.size),λ C ZR=>(V C E (by simp at ZD;omega)).trans (O.block C ZR)⟩;clear V W ZA ZP Z7 P Z5;have Z6:D.heap.size<A.heap.size:=b6 c;refine(ku (ai r) _ (by rw[bs];omega)).mono ?_;rw[cE];rintro s ZM ⟨rfl,rfl⟩;go_wp2_with fail;refine(ku (ai p) _ (by rw[bs];omega)).mono ?_;rw[cE];rintro s ZM ⟨rfl,rfl⟩;clear Z3 Z2;cases z:cg r with
   | none =>
    have B:U (∀a b,bH a b=ae->bG a b≠i):= λ a b g j=>by
     have l:=(y.o a b g j).1;rw[z] at l;cases l
    clear z y N
    go_wp2
    refine aK (v:=bz 0 0 ak) (by simp[aJ,results98,go_sem,c,d,e,f,Z6,fr]) rfl ⟨?_,?_⟩
    ·exact⟨λ a b g j=>bC j (B.o a b g),λ _=>rfl⟩
    ·exact aD
   | some k =>
    have ZC:U (i≠[]):= λ o=>by have:=N.o o;rw[z] at this;cases this
    clear N
    cases L:cg p with
    | none =>
     have B:U (∀a b,bH a b=ae->bG a b≠i):= λ a b g j=>by
      have l:=(y.o a b g j).2;rw[L] at l;cases l
     clear z L y
     go_wp2
     refine aK (v:=bz 0 0 ak) (by simp[aJ,results98,go_sem,c,d,e,f,Z6,fr]) rfl ⟨?_,?_⟩
     ·exact⟨λ a b g j=>bC j (B.o a b g),λ _=>rfl⟩
     ·exact aD
    | some m =>
     have u:U (∀a b,bH a b=ae->bG a b=i->a=k /\ b=m):= λ a b g j=>by
      exact vl
     have H:U (∀G,aC 71 #[ba #[M k,M m]] G (aE (ai (bG k m)))):= λ G=>th k m G
     clear z L y
     by_cases q:bG k m=i
     ·rw[q] at H;have w:bH k m=ae:=by
       exact we
      have Q:U ((∀a b,bH a b=ae->bG a b=i->aV (bz k m ae)=aV (bz a b ae)) /\ ((∀a b,bH a b=ae->bG a b≠i)->aV (bz k m ae)=aV (bz 0 0 ak))):=⟨λ a b g j=>by obtain⟨rfl,rfl⟩:=u.o a b g j;rfl,λ o=>bC q (o _ _ w)⟩;have Z4:((ai i).toList==(ai i).toList)=ae:=beq_self_eq_true _;clear w q u;go_wp2_with fail;refine(H.o _).mono ?_;rintro s S ⟨rfl,t⟩;have ZO:=aS t A.heap.size 0 (M k);have ZN:=aS t A.heap.size 1 (M m);have n:ap A S:=bJ t;exact vn
     ·have B:U (∀a b,bH a b=ae->bG a b≠i):= λ a b g j=>by obtain⟨rfl,rfl⟩:=u.o a b g j;exact q j
      have ZZ:((ai (bG k m)).toList==(ai i).toList)=ak:=j5 q;clear q u;obtain⟨Y,Z9⟩:∃Y,bG k m=Y:=⟨_,rfl⟩;rw[Z9] at H ZZ;clear Z9;go_wp2_with fail;refine(H.o _).mono ?_;rintro s S ⟨rfl,t⟩;have ZO:=aS t A.heap.size 0 (M k);have ZN:=aS t A.heap.size 1 (M m);have n:ap A S:=bJ t;exact xH
theorem DM (a b:F) (d:af) (e:bH a b=ae):
  aC 98 #[aE (ai (bG a b))] d (bz a b ae) :=
 (zH _ d (by have:=q4 a b;omega)).mono λ _ _ c=>⟨c.1.1 a b e I,c.2⟩
theorem Em (a:ax) (e:af) (f:a.length<=100000) (g:∀b c,bH b c=ae->bG b c≠a):
  aC 98 #[aE (ai a)] e (bz 0 0 ak) :=
 (zH a e f).mono λ _ _ d=>⟨d.1.2 g,d.2⟩
end Go.Proofs.YtkjnhlpccgjfhaaGreatDoor
