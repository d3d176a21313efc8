/- A part of the proof: lemmas (my texts, shortened by a program of mine). -/
import Derived.Test.YtkjnhlpccgjfhaaGreatDoorC19
import Derived.Test.YtkjnhlpccgjfhaaGreatDoorC34
set_option linter.all false
set_option maxRecDepth 100000
set_option maxHeartbeats 4000000
namespace Go.Proofs.YtkjnhlpccgjfhaaGreatDoor
open Go.RowKit
open Go.Proofs.Tryz
open Bool renaming false->ak,true->ae
open _root_.ByteArray renaming mk->aN,size->eX,size_append->cZ
open Go renaming Calls->aY,Value->ay,World->af,bodyPost_ret->aK,results->aJ
open Go.Act renaming put->aT
open Go.Ending renaming returned->aV
open Go.Obj renaming cells->al
open Go.Value renaming agg->ba,bool->aw,slice->aa,string->aE,tuple->aL
open Go.World renaming drew->dH
open List renaming drop_eq_getElem_cons->mH,getElem?_eq_getElem->fV,getElem?_map->jE,length_map->ec
open Nat renaming le_refl->bL,lt_succ_self->gB
open Option renaming none->aj,some->Z
open Or renaming inl->bj,inr->aP
open _root_ renaming ByteArray->ch,Int->F,List->aU,Nat->J,absurd->bC,decide_eq_true->fW,if_neg->aF,if_pos->a7,rfl->I
variable {p q:Prop}
theorem cb.spD {f e:J} {m d:af} {g a l h:J} {n:aU ch} (c:cb m g (aq a l h) n) (u:bW f e m d) (s:a<e) (i:a≠f):cb d g (aq a l h) n:=by
 have t:=cb.block c a I;refine⟨c.1,?_⟩;rcases c.2 with i | ⟨o,q,r,k,p,j,v⟩
 ·exact bj i
 ·refine aP ⟨o,q,r,k,p,?_,v⟩;injection k with b w x
  injection b with b;injection b with b
  rw[<- b] at j ⊢;rw[u.block a t.2 s (by assumption)];exact j
theorem IX (f:ep) (b:aU (ax)) (a e:J) (c:ax) (g:aR) (d:b.length<=a):eb f (b.drop a) e c g=c:=by
 rw[List.drop_of_length_le d];rfl
theorem BZ (d:ep) {b:aU (ax)} {a:J} (c:J) (e:ax) (f:aR) (g:b[a]? =Z []):eb d (b.drop a) c e f=eb d (b.drop (a+1)) (c+1) e f:=by
 obtain⟨h,i⟩:=List.getElem?_eq_some_iff.1 g;rw[mH h,i];conv=>lhs;unfold eb
 rw[a7 rfl]
theorem Hz (k:ep) {e:aU (ax)} {c:J} {d:ax} (b:J) (a:ax) (l:aR) (g:e[c]? =Z d) (j:d≠[]) (f:100<=b \/ 40000<a.length):eb k (e.drop c) b a l=a++[102,117,108,108,10]:=by
 obtain⟨h,i⟩:=List.getElem?_eq_some_iff.1 g;rw[mH h,i];conv=>lhs;unfold eb
 rw[aF j,a7 f]
theorem HA (b:ep) {e:aU (ax)} {d:J} {a:ax} (c:J) (f:ax) (g:aR) (h:e[d]? =Z a) (k:a≠[]) (l:c<100) (m:f.length<=40000):eb b (e.drop d) c f g=eb b (e.drop (d+1)) (c+1) (f++((gx b g a).1++[10])) (gx b g a).2:=by
 obtain⟨i,j⟩:=List.getElem?_eq_some_iff.1 h;rw[mH i,j];conv=>lhs;unfold eb
 rw[aF k,aF E]
theorem uG (n:ep) (b:ax) (V:af) (Zq:b.length<=1048576) (ZF:dp V):
  aC 6 #[aE (ai b)] V (aE (ai (hr n b))):=by
 by_cases Z6:20000<b.length
 ·have t:U (hr n b=[108,111,110,103,10]):=a7 Z6;have Zh:(20000:F)<((ai b).size:J):=by rw[bs];omega
  rw[t.o];clear Z6 Zq;generalize ai b=Zd at *;go_enter func6,ntmps6;exact jP
 have t:U (hr n b=eb n (bo 10 b) 0 [] eD):=aF Z6;rw[t.o];clear t;have Zh:¬(20000:F)<((ai b).size:J):=by rw[bs];omega
 obtain⟨u,Z9⟩:∃u,eb n (bo 10 b) 0 [] eD=u:=⟨_,I⟩;have Z2:=ab Z9;rw[Z9];clear Z9;have ZO:U (∀(e:J) g,(bo 10 b)[e]? =Z g->g.length<=100000):= λ e g D=>by
  have:=nI 10 b g (List.mem_of_getElem? D);omega
 obtain⟨q,Y⟩:∃q,bo 10 b=q:=⟨_,I⟩;have Z3:=ab Y;rw[Y] at Z2 ZO;clear Y;go_enter func6,ntmps6;go_wp2_with fail;refine(qp 2 3 _ aX aX).mono ?_;rintro f Y5 ⟨⟨Y7,rfl,j⟩,ZM⟩;obtain⟨v,R,x,rfl,Zm⟩:=j.ints;clear Zm;go_wp2_with fail;refine(qp 2 3 _ aX aX).mono ?_;rintro f k ⟨⟨Y6,rfl,N⟩,Z8⟩;obtain⟨w,S,z,rfl,Zl⟩:=N.ints;clear Zl;replace j:=j.below Z8;have ZY:=au ZM Z8;clear ZM Z8;go_wp2_with fail;obtain⟨r,a⟩:∃Zx,k.alloc (al #[M 2,aa v R x,M 2,aa w S z,M 1,aa aj 0 0] 43)=Zx:=⟨_,I⟩;rw[a];have ZK:ap k r:=by rw[<- a];exact az _ _
 have C:dT r k.heap.size (eD.ds (aa aj 0 0)):=by
  have Z1:=j.below (az k (al #[M 2,aa v R x,M 2,aa w S z,M 1,aa aj 0 0] 43));have Z0:=N.below (az k (al #[M 2,aa v R x,M 2,aa w S z,M 1,aa aj 0 0] 43));have Zw:=j.block;have Zv:=N.block;rw[a] at Z1 Z0;refine⟨by rw[<- a];simp,by rw[<- a];simp[aR.ds,eD],by rw[<- a];simp[aR.ds,eD],by rw[<- a];simp[aR.ds,eD],by rw[<- a];simp,by rw[<- a];simp,by rw[<- a];simp,by rw[<- a];simp,by rw[<- a];simp,⟨v,R,x,by rw[<- a];simp,Z1.mono E,λ f=>?_⟩,⟨w,S,z,by rw[<- a];simp,Z0.mono E,λ f=>?_⟩,by rw[<- a];simp[aR.ds,eD],by rw[<- a];simp⟩
  ·have:=(Zw _ f).2;omega
  ·have:=(Zv _ f).2;omega
 have ZU:=au ZY ZK;have ZE:=C.lt;obtain⟨d,ZQ⟩:∃d,k.heap.size=d:=⟨_,I⟩;have ZP:V.heap.size<=d:=by have:=ZY.size;omega
 rw[ZQ] at C ZE ⊢;clear ZK a ZQ j N;refine(uL 10 b _ E (ZF.below ZU)).mono ?_;rintro f Z4 ⟨s,Ze,rfl,O,Q,Z7⟩;rw[Z3.o] at Q;obtain⟨c,ZS⟩:∃c,Z4.heap.size=c:=⟨_,I⟩;have Zn:r.heap.size<c:=by rw[<- ZS];exact(cb.block O r.heap.size I).2
 have ZR:d<c:=E;have Zt:eY Z4 d c eD (aa aj 0 0):=⟨C.below Z7,cY.empty _ _,λ _=>rfl,ZR,E⟩;have ZT:=au ZU Z7;obtain⟨y,ZJ⟩:∃y,r.heap.size=y:=⟨_,I⟩;rw[ZJ] at O ZE Zn ⊢;have Zz:=ab Q;have ZH:s=q.length:=by rw[O.at.1,Q,ec]
 have YO:U (∀(e:J) g,q[e]? =Z g->Ze[e]? =Z (ai g)):= λ e g D=>by
  rw[Zz.o,jE,D];rfl
 have Y9:s<=100001:=by
  have K:=kD 10 b;rw[Z3.o] at K;omega
 have Zo:=ab ZH;clear Z7 ZJ Q C ZH ZS;go_wp2;go_loopw [4,5,6,17] (λ Zf _ _ Z5 wr=>∃e:J,e<=s /\ Z5=M e /\ (∃(i:ax) (l:aR) (A:ay),Zf=aE (ai i) /\ i.length<=46100 /\ l.Ok /\ U (eb n (q.drop e) e i l=u) /\ eY wr d c l A) /\ bW d c Z4 wr) (λ _ _ _ Z5 _=>s-(intOf Z5).toNat)
 case atStart=>exact⟨0,E,I,⟨[],eD,_,I,ar,Da,Z2.o,Zt⟩,bW.refl _ _ _⟩
 case round =>
  obtain⟨e,D,rfl,⟨i,l,A,rfl,Zr,L,H,X⟩,p⟩:=hrel;have ZV:=O.spD p E E;have ZI:=bW.below ZT ZT.size p ZP ZR;by_cases Za:e<s
  ·have Zc:(0:F)<=(e:F):=E;have Zb:(e:F)<(s:F):=E;refine zm ?_;intro g ZX T ZW;clear ZV;by_cases G:g=[]
   ·subst G;refine p8 ?_;intro B;have o:U (eb n (q.drop (e+1)) (e+1) i l=u):=by rw[U,<- BZ n e i l T.o];exact H.o
    go_wp2;go_roundw
    case rel=>exact⟨e+1,E,by go_num,⟨i,l,A,I,Zr,L,o,X⟩,p⟩
    case measure=>simp[intOf];omega
   ·have B:(ai g).toList.isEmpty=ak:=kr g ak (by cases g with | nil=>exact bC I G | cons _ _=>rfl);have ZL:=ab G;clear G;by_cases P:100<=e \/ 40000<i.length
    ·have Zp:U (ai i++aN #[102,117,108,108,10]=ai u):=by
      exact wn
     have Zg:¬9223372036854775807<(ai i).size +(aN #[102,117,108,108,10]).size:=by rw[bs];simp[eX];omega
     by_cases Zj:100<=e
     ·have K:(100:F)<=(e:F):=E;clear P;exact pE
     ·exact xk
    ·have K:¬(100:F)<=(e:F):=E;have Zi:¬(40000:F)<((ai i).size:J):=by rw[bs];omega
     obtain⟨ZZ,Zu⟩:=BY n L g;have W:=ab (Ov n l L g ZW);refine zq ?_;intro o;generalize gx n l g=Zy at *;obtain⟨m,ZC⟩:=Zy;simp only at ZZ Zu W o;have ZA:U (ai (i++(m++[10]))=ai i++(ai m++aN #[10])):=by
      rw[U,show aN #[10]=ai [10] from I,dd,dd]
     have Zk:(i++(m++[10])).length<=46100:=by simp;omega
     have Zg:¬9223372036854775807<(ai m).size +(aN #[10]).size:=by rw[bs];simp[eX];omega
     have Y8:¬9223372036854775807<(ai i).size +(ai m++aN #[10]).size:=by rw[cZ,bs,bs];simp[eX];omega
     clear P H L;go_wp2_with fail;refine(W.o V wr d c A ZF ZP ZI X).mono ?_;rintro f Y4 ⟨rfl,⟨ZD,Zs⟩,ZG⟩;have ZB:=ab (p.trans ZG);clear p ZG X W;go_wp2;go_roundw
     case rel=>exact⟨e+1,E,by go_num,⟨_,ZC,ZD,by rw[ZA.o],Zk,ZZ,o,Zs⟩,ZB.o⟩
     case measure=>simp[intOf];omega
  ·exact xN
theorem fy {e:ax} {a p:aR} {u:ax} (O:e≠[108,101,102,116]) (R:e≠[114,105,103,104,116]) (S:e≠[115,101,116]) (N:e≠[107,105,110,100,115]) (y:e≠[98,101,108,105,101,102]) (Q:e≠[112,111,115,115,105,98,108,101]) (z:e≠[99,104,97,110,99,101]) (T:e≠[115,105,122,101]) (C:e≠[99,111,110,102,108,105,99,116]) (K:e≠[100,105,115,116,97,110,99,101]) (U:e≠[115,112,101,99,105,97,108,105,122,101,100]) (P:e≠[108,101,115,115]) (F:e≠[99,111,110,116,111,117,114]) (G:e≠[99,111,114,110,101,114,115]) (L:e≠[101,120,99,104,97,110,103,101]) (B:e≠[99,108,101,97,114]) (x:c6 38 e a u p):c6 11 e a u p:=by
 have t:=ab x;have ZN:=bn O;have ZK:=bn R;have ZJ:=bn S;have ZO:=bn N;have ZW:=bn y;have ZL:=bn Q;have ZV:=bn z;have ZI:=bn T;have ZT:=bn C;have ZQ:=bn K;have ZH:=bn U;have ZM:=bn P;have ZS:=bn F;have ZR:=bn G;have ZP:=bn L;have ZU:=bn B;clear O R S N y Q z T C K U P F G L B x;intro H b s J V;have W:=V;obtain⟨c,d,f,i,g,l,m,n,rfl,Zs,Zr,Zt⟩:=V;go_enter func11,ntmps11;go_wp2_with fail;refine sX ?_;refine yt ?_;intro A w s j r v q o k;have Y:=o;obtain⟨Z4,Z6,Z,Z3,Z5,Z9,Z7,Z8,rfl,_,_,_⟩:=o;obtain⟨Zz,Zy,Zx,Zw,Zv,Zu,ZG,ZF,ZE,ZD,ZC,ZB,Z2,Z1,Z0,ZZ,ZY,ZX⟩:=cq r k;have X:=au j k;clear t q ZN ZK ZJ ZO ZW ZL ZV ZI ZT ZQ ZH ZM ZS ZR ZP ZU;go_wp2;refine aK (v:=aL #[ba #[M p.s,aa Z4 Z6 Z,M p.t,aa Z3 Z5 Z9,M p.a,aa Z7 p.gg.length Z8],aE (ai (u++[10]))]) (by simp[aJ,results11,go_sem,Z2,Z1,Z0,ZZ,ZY,ZX,ZG,ZF,ZE,ZD,ZC,ZB]) I ?_;exact xX
theorem Nm (a:aR) (H:a.Ok):c6 11 [108,101,102,116] a (bd a.s a.xs) a:=by
 refine mV ?_;intro o;refine cc ?_;intro z b c d f i g l m n x w t s u;have Y:U (∀e,an e c d a.xs->aC 22 #[am a.s c d f] e (aE (ai (bd a.s a.xs)))):= λ e T=>k9 a.s _ _ _ a.xs e T
 have J:¬9223372036854775807<(ai (bd a.s a.xs)).size +1:=by rw[bs];have:=hJ a.s a.xs;omega
 have G:U (ai (bd a.s a.xs)++aN #[10]=ai ((bd a.s a.xs)++[10])):=by rw[U,show aN #[10]=ai [10] from I,dd]
 obtain⟨y,F⟩:∃y,(bd a.s a.xs)=y:=⟨_,I⟩;rw[F] at Y J G ⊢;clear F H;go_enter func11,ntmps11;go_wp2_with fail;refine hd ?_;intro A D;refine jh ?_;intro B q K;clear D;refine ia ?_;intro C p;refine kZ ?_;refine bR 3 I (λ k j=>?_);go_simp;refine od ?_;rintro X ZR ⟨rfl,r⟩;exact ss
theorem M1 (a:aR) (J:a.Ok):c6 11 [114,105,103,104,116] a (bd a.t a.ys) a:=by
 refine mW ?_;intro o;refine cc ?_;intro z b c d f i g l m n x w t s u;have F:U (∀e,an e i g a.ys->aC 22 #[am a.t i g l] e (aE (ai (bd a.t a.ys)))):= λ e X=>k9 a.t _ _ _ a.ys e X
 have T:¬9223372036854775807<(ai (bd a.t a.ys)).size +1:=by rw[bs];have:=hJ a.t a.ys;omega
 have G:U (ai (bd a.t a.ys)++aN #[10]=ai ((bd a.t a.ys)++[10])):=by rw[U,show aN #[10]=ai [10] from I,dd]
 obtain⟨y,H⟩:∃y,(bd a.t a.ys)=y:=⟨_,I⟩;rw[H] at F T G ⊢;clear H J;go_enter func11,ntmps11;go_wp2_with fail;refine hd ?_;intro A D;have B:ap b A:=by rw[<- D];exact aD
 have q:=jU (w:=b) D;have K:an A i g a.ys:=(s.row.below B).view;clear D;refine ia ?_;intro C p;refine kZ ?_;refine bR 3 I (λ k j=>?_);go_simp;refine(F.o _ (K.below C)).mono ?_;rintro Y ZR ⟨rfl,r⟩;exact ss
theorem Ow (a:aR) (D:a.Ok):c6 11 [115,101,116] a (cd a.a.toNat) a:=by
 refine m2 ?_;intro o;refine cc ?_;intro z b c d f i g l m n x w t s u;have K:U (∀e,aC 23 #[M a.a] e (aE (ai (cd a.a.toNat)))):= λ e=>by
  have T:=la a.a.toNat e (by have:=D.a1;omega);rw[show ((a.a.toNat:J):F)=a.a by have:=D.a0;omega] at T;exact T
 have Y:¬9223372036854775807<(ai (cd a.a.toNat)).size +1:=by rw[bs];have:=uB a.a D.a0 D.a1;omega
 have G:U (ai (cd a.a.toNat)++aN #[10]=ai ((cd a.a.toNat)++[10])):=by rw[U,show aN #[10]=ai [10] from I,dd]
 obtain⟨y,X⟩:∃y,(cd a.a.toNat)=y:=⟨_,I⟩;rw[X] at K Y G ⊢;clear X D;go_enter func11,ntmps11;go_wp2_with fail;refine hd ?_;intro A H;have B:ap b A:=by rw[<- H];exact aD
 have q:=jU (w:=b) H;clear H;refine ia ?_;intro C p;refine kZ ?_;refine bR 3 I (λ k j=>?_);go_simp;refine(K.o _).mono ?_;rintro ZW ZR ⟨rfl,r⟩;exact ss
theorem M2 (a:aR) (F:a.Ok):c6 11 [107,105,110,100,115] a (i5 a.s a.xs) a:=by
 have o:U (ai [107,105,110,100,115]=aN #[107,105,110,100,115]):=ab I;refine cc ?_;intro z b c d f i g l m n x w t s u;have Y:U (∀e,an e c d a.xs->aC 24 #[am a.s c d f] e (aE (ai (i5 a.s a.xs++[10])))):= λ e H=>Ii a.s _ _ _ a.xs e H F.m
 obtain⟨y,G⟩:∃y,i5 a.s a.xs=y:=⟨_,I⟩;exact wh
theorem Jq (a:aR) (F:a.Ok):c6 11 [99,111,114,110,101,114,115] a (hv a.s a.xs) a:=by
 have o:U (ai [99,111,114,110,101,114,115]=aN #[99,111,114,110,101,114,115]):=ab I;refine cc ?_;intro z b c d f i g l m n x w t s u;have Y:U (∀e,an e c d a.xs->aC 37 #[am a.s c d f] e (aE (ai (hv a.s a.xs++[10])))):= λ e H=>Gh a.s _ _ _ a.xs e H
 obtain⟨y,G⟩:∃y,hv a.s a.xs=y:=⟨_,I⟩;exact wh
theorem K8 (a:aR) (G:a.Ok):c6 11 [98,101,108,105,101,102] a (cM (fo a.s a.xs a.a)) a:=by
 have o:U (ai [98,101,108,105,101,102]=aN #[98,101,108,105,101,102]):=ab I;refine cc ?_;intro z b c d f i g l m n x w t s u;obtain⟨y,H⟩:∃y,fo a.s a.xs a.a=y:=⟨_,I⟩;rw[H];refine jS ?_;intro X T;have Y:U (∀e,an e c d a.xs->aC 26 #[am a.s c d f,M a.a] e (bz y.num y.den y.ok)):= λ e Z9=>by rw[<- H];exact EM a.s a.a _ _ _ a.xs e Z9
 exact r9
theorem HX (a:aR) (G:a.Ok):c6 11 [112,111,115,115,105,98,108,101] a (cM (fp a.s a.xs a.a)) a:=by
 have o:U (ai [112,111,115,115,105,98,108,101]=aN #[112,111,115,115,105,98,108,101]):=ab I;refine cc ?_;intro z b c d f i g l m n x w t s u;obtain⟨y,H⟩:∃y,fp a.s a.xs a.a=y:=⟨_,I⟩;rw[H];refine jS ?_;intro X T;have Y:U (∀e,an e c d a.xs->aC 27 #[am a.s c d f,M a.a] e (bz y.num y.den y.ok)):= λ e Z9=>by rw[<- H];exact DY a.s a.a _ _ _ a.xs e Z9
 exact r9
theorem K9 (a:aR) (G:a.Ok):c6 11 [99,104,97,110,99,101] a (cM (fq a.s a.xs a.a)) a:=by
 have o:U (ai [99,104,97,110,99,101]=aN #[99,104,97,110,99,101]):=ab I;refine cc ?_;intro z b c d f i g l m n x w t s u;obtain⟨y,H⟩:∃y,fq a.s a.xs a.a=y:=⟨_,I⟩;rw[H];refine jS ?_;intro X T;have Y:U (∀e,an e c d a.xs->aC 28 #[am a.s c d f,M a.a] e (bz y.num y.den y.ok)):= λ e Z9=>by rw[<- H];rw[T];exact EQ a.s X _ _ _ a.xs e Z9 G.m
 exact r9
theorem Nn (a:aR) (G:a.Ok):c6 11 [115,105,122,101] a (cM (bv (er a.xs a.xs.length) (aW a.xs))) a:=by
 have o:U (ai [115,105,122,101]=aN #[115,105,122,101]):=ab I;refine cc ?_;intro z b c d f i g l m n x w t s u;obtain⟨y,Z9⟩:∃y,bv (er a.xs a.xs.length) (aW a.xs)=y:=⟨_,I⟩;rw[Z9];refine jS ?_;intro X T;have Y:U (∀e,an e c d a.xs->aC 29 #[am a.s c d f] e (bz y.num y.den y.ok)):= λ e Z3=>by rw[<- Z9];exact F0 a.s _ _ _ a.xs e Z3 G.m
 refine oh ?_;intro Z5;clear Z9 G T;go_enter func11,ntmps11;go_wp2_with fail;refine hd ?_;intro A D;refine jh ?_;intro B q K;clear D;refine ia ?_;intro C p;refine kZ ?_;refine bR 3 I (λ k j=>?_);go_simp;refine od ?_;rintro Z8 ZR ⟨rfl,r⟩;refine s4 ?_;intro W p;clear j k r;refine pQ ?_;refine bR 6 I (λ k j=>?_);go_simp;refine(Z5.o _).mono ?_;rintro Z8 Z4 ⟨rfl,r⟩;have H:=au W r;refine pR ?_;intro v;refine eu ?_;intro p;clear j k r v;obtain⟨L,N,O,P,Q,R,ZX,ZW,ZV,ZU,ZT,ZS,Z7,Z2,Z1,Z0,ZZ,ZY⟩:=cq q H;refine bR 7 I (λ k j=>?_);refine c7 ?_;clear j k;refine bR 8 I (λ k j=>?_);refine c7 ?_;refine eh ?_;clear j k;replace H:=au B H;go_wp2;refine za ?_;exact pH
theorem HY (a:aR) (G:a.Ok):c6 11 [99,111,110,102,108,105,99,116] a (cM (gR a.s a.xs a.t a.ys)) a:=by
 have o:U (ai [99,111,110,102,108,105,99,116]=aN #[99,111,110,102,108,105,99,116]):=ab I;refine cc ?_;intro z b c d f i g l m n x w t s u;obtain⟨y,H⟩:∃y,gR a.s a.xs a.t a.ys=y:=⟨_,I⟩;rw[H];refine jS ?_;intro X T;have Y:U (∀e,an e c d a.xs->an e i g a.ys->aC 30 #[am a.s c d f,am a.t i g l] e (bz y.num y.den y.ok)):= λ e Z9 Z4=>by rw[<- H];exact Ey a.s a.t _ _ _ _ _ _ a.xs a.ys e Z9 Z4
 exact xj
theorem HZ (a:aR) (G:a.Ok):c6 11 [100,105,115,116,97,110,99,101] a (cM (hu a.s a.xs a.t a.ys)) a:=by
 have o:U (ai [100,105,115,116,97,110,99,101]=aN #[100,105,115,116,97,110,99,101]):=ab I;refine cc ?_;intro z b c d f i g l m n x w t s u;obtain⟨y,H⟩:∃y,hu a.s a.xs a.t a.ys=y:=⟨_,I⟩;rw[H];refine jS ?_;intro X T;have Y:U (∀e,an e c d a.xs->an e i g a.ys->aC 31 #[am a.s c d f,am a.t i g l] e (bz y.num y.den y.ok)):= λ e Z9 Z4=>by rw[<- H];exact Ez a.s a.t _ _ _ _ _ _ a.xs a.ys e Z9 Z4
 exact xj
theorem No (a:aR) (G:a.Ok):c6 11 [108,101,115,115] a (iE (iG a.s a.xs a.t a.ys)) a:=by
 have o:U (ai [108,101,115,115]=aN #[108,101,115,115]):=ab I;refine cc ?_;intro z b c d f i g l m n x w t s u;obtain⟨y,F⟩:∃y,iG a.s a.xs a.t a.ys=y:=⟨_,I⟩;rw[F];have T:U (∀e,an e c d a.xs->an e i g a.ys->aC 34 #[am a.s c d f,am a.t i g l] e (aw y)):= λ e J W=>by rw[<- F];exact En a.s a.t _ _ _ _ _ _ a.xs a.ys e J W
 exact xe
theorem Jr (a:aR) (H:a.Ok):c6 11 [99,111,110,116,111,117,114] a (b2 (fS a.s a.xs)) a:=by
 have o:U (ai [99,111,110,116,111,117,114]=aN #[99,111,110,116,111,117,114]):=ab I;refine cc ?_;intro z b c d f i g l m n x w t s u;have T:=ab (show h5 (fS a.s a.xs) /\ (fS a.s a.xs).length<=16 from ⟨rA (ri H.m),by have:=q5 H.m;omega⟩).1;have W:=ab (show h5 (fS a.s a.xs) /\ (fS a.s a.xs).length<=16 from ⟨rA (ri H.m),by have:=q5 H.m;omega⟩).2;have Y:U (∀e,an e c d a.xs->db 36 #[am a.s c d f] e (fS a.s a.xs)):= λ e ZJ=>ES a.s _ _ _ a.xs e ZJ H.m
 obtain⟨y,X⟩:∃y,(fS a.s a.xs)=y:=⟨_,I⟩;refine zn ?_;intro J Y T W Z Z7 Z1 G;clear X;clear H;go_enter func11,ntmps11;go_wp2_with fail;refine hd ?_;intro A D;refine jh ?_;intro B q K;clear D;refine ia ?_;intro C p;refine kZ ?_;refine bR 3 I (λ k j=>?_);go_simp;refine od ?_;rintro Z4 ZL ⟨⟨ZH,rfl,ZS⟩,r⟩;have Z8:=au C r;obtain⟨ZI,Z9,Z5,rfl,ZT⟩:=ZS.ints;go_simp;have v:aA (b.heap.size+1) (b.heap.size+1+1) A ZL:=aA.of_below Z8;refine eu ?_;intro p;clear j k r v;refine bR 4 I (λ k j=>?_);go_simp;refine(Z.o _ _ _ _ ZT).mono ?_;rintro Z4 ZK ⟨rfl,r⟩;have F:=au Z8 r;go_simp;have v:aA (b.heap.size+1) (b.heap.size+1+1) A ZK:=aA.of_below F;refine eu ?_;intro p;clear j k r v;refine pQ ?_;obtain⟨L,N,O,P,Q,R,ZR,ZQ,ZP,ZO,ZN,ZM,Z3,ZY,ZX,ZW,ZV,ZU⟩:=cq q F;refine bR 6 I (λ k j=>?_);refine c7 ?_;clear j k;refine bR 7 I (λ k j=>?_);refine c7 ?_;refine eh ?_;clear j k;replace F:=au B F;go_wp2;refine aK (v:=aL #[ba #[M a.s,aa c d f,M a.t,aa i g l,M a.a,aa m a.gg.length n],aE (ai J++aN #[10])]) (by simp[aJ,results11,go_sem,Z3,ZY,ZX,ZW,ZV,ZU,ZR,ZQ,ZP,ZO,ZN,ZM]) I ?_;refine yP ?_;intro V;exact rX
theorem hl {e:ax} {a p:aR} {u:ax} (C:e≠[115,97,102,101,115,116]) (z:e≠[98,111,108,100,101,115,116]) (B:e≠[101,118,101,110]) (F:e≠[117,110,98,101,97,116,101,110]) (y:e≠[98,101,115,116]) (x:c6 92 e a u p):c6 38 e a u p:=by
 have t:=ab x;have Z4:=bn C;have Z6:=bn z;have Z5:=bn B;have Z3:=bn F;have Z7:=bn y;clear C z B F y x;intro H b s J G;have W:=G;obtain⟨c,d,f,i,g,l,m,n,rfl,ZP,ZO,ZQ⟩:=G;go_enter func38,ntmps38;go_wp2_with fail;refine sX ?_;refine yt ?_;intro A w s j r v q o k;have Y:=o;obtain⟨R,P,K,S,Q,L,O,N,rfl,_,_,_⟩:=o;obtain⟨ZW,ZV,ZU,ZT,ZS,ZR,Z2,Z1,Z0,ZZ,ZY,ZX,T,U,V,Z,Z9,Z8⟩:=cq r k;have X:=au j k;clear t q Z4 Z6 Z5 Z3 Z7;go_wp2;refine aK (v:=aL #[ba #[M p.s,aa R P K,M p.t,aa S Q L,M p.a,aa O p.gg.length N],aE (ai (u++[10]))]) (by simp[aJ,results38,go_sem,T,U,V,Z,Z9,Z8,Z2,Z1,Z0,ZZ,ZY,ZX]) I ?_;exact xX
theorem H0 (a:aR) (F:a.Ok):c6 38 [117,110,98,101,97,116,101,110] a (b2 (fJ a.s a.xs a.gg)) a:=by
 have o:U (ai [117,110,98,101,97,116,101,110]=aN #[117,110,98,101,97,116,101,110]):=ab I;refine cc ?_;intro z b c d f i g l m n x w t s u;have T:=ab (o6 (s:=a.s) (xs:=a.xs) F.gl).1;have W:=ab (o6 (s:=a.s) (xs:=a.xs) F.gl).2;have Y:U (∀e,an e c d a.xs->dj e m a.gg.length a.gg->db 90 #[am a.s c d f,aa m a.gg.length n] e (fJ a.s a.xs a.gg)):= λ e ZY ZX=>Ei a.s _ _ _ _ _ _ a.xs a.gg e ZY ZX
 obtain⟨y,X⟩:∃y,(fJ a.s a.xs a.gg)=y:=⟨_,I⟩;exact vw
theorem Np (a:aR) (F:a.Ok):c6 38 [98,101,115,116] a (b2 (gP a.s a.xs a.gg)) a:=by
 have o:U (ai [98,101,115,116]=aN #[98,101,115,116]):=ab I;refine cc ?_;intro z b c d f i g l m n x w t s u;have T:=ab (oY (s:=a.s) (xs:=a.xs) F.gl).1;have W:=ab (oY (s:=a.s) (xs:=a.xs) F.gl).2;have Y:U (∀e,an e c d a.xs->dj e m a.gg.length a.gg->db 91 #[am a.s c d f,aa m a.gg.length n] e (gP a.s a.xs a.gg)):= λ e ZY ZX=>Ej a.s _ _ _ _ _ _ a.xs a.gg e ZY ZX
 obtain⟨y,X⟩:∃y,(gP a.s a.xs a.gg)=y:=⟨_,I⟩;exact vw
theorem La (a:aR) (H:a.Ok):c6 38 [115,97,102,101,115,116] a (hw (fc (ce a.s a.xs a.gg) (λ ZJ=>bS 1000 a.xs (aO a.gg ZJ) a.xs.length) a.gg.length)) a:=by
 have o:U (ai [115,97,102,101,115,116]=aN #[115,97,102,101,115,116]):=ab I;refine cc ?_;intro z b c d f i g l m n x w t s u;obtain⟨ZJ,G⟩:∃ZJ,fc (ce a.s a.xs a.gg) (λ ZJ=>bS 1000 a.xs (aO a.gg ZJ) a.xs.length) a.gg.length=ZJ:=⟨_,I⟩;refine m3 ?_;intro J;have ZY:U (∀e,an e c d a.xs->dj e m a.gg.length a.gg->aC 87 #[am a.s c d f,aa m a.gg.length n] e (M ZJ)):= λ e ZT ZS=>by rw[<- G];exact EF a.s _ _ _ _ _ _ a.xs a.gg e ZT ZS
 exact rP
theorem Js (a:aR) (H:a.Ok):c6 38 [98,111,108,100,101,115,116] a (hw (fc (ce a.s a.xs a.gg) (λ ZJ=> -(bS 1000 a.xs (ca (aO a.gg ZJ) (aO a.gg ZJ).length) a.xs.length)) a.gg.length)) a:=by
 have o:U (ai [98,111,108,100,101,115,116]=aN #[98,111,108,100,101,115,116]):=ab I;refine cc ?_;intro z b c d f i g l m n x w t s u;refine yR ?_;intro ZJ G;refine m3 ?_;intro J;have ZY:U (∀e,an e c d a.xs->dj e m a.gg.length a.gg->aC 88 #[am a.s c d f,aa m a.gg.length n] e (M ZJ)):= λ e ZT ZS=>by rw[<- G];exact D6 a.s _ _ _ _ _ _ a.xs a.gg e ZT ZS
 exact rP
theorem Nq (a:aR) (H:a.Ok):c6 38 [101,118,101,110] a (hw (fc (ce a.s a.xs a.gg) (λ ZJ=>eU a.xs (aO a.gg ZJ) (aO a.gg ZJ).length) a.gg.length)) a:=by
 have o:U (ai [101,118,101,110]=aN #[101,118,101,110]):=ab I;refine cc ?_;intro z b c d f i g l m n x w t s u;obtain⟨ZJ,G⟩:∃ZJ,fc (ce a.s a.xs a.gg) (λ ZJ=>eU a.xs (aO a.gg ZJ) (aO a.gg ZJ).length) a.gg.length=ZJ:=⟨_,I⟩;refine m3 ?_;intro J;have ZY:U (∀e,an e c d a.xs->dj e m a.gg.length a.gg->aC 89 #[am a.s c d f,aa m a.gg.length n] e (M ZJ)):= λ e ZT ZS=>by rw[<- G];exact Eu a.s _ _ _ _ _ _ a.xs a.gg e ZT ZS
 exact rP
theorem Ox {W:af} {A:J} (g:TypeId) (a b c d e f:ay) (h:W.heap.size=A):((W.alloc (al #[a,b,c,d,e,f] g)).cell? (ad A 0)=Z a /\ (W.alloc (al #[a,b,c,d,e,f] g)).cell? (ad A 1)=Z b /\ (W.alloc (al #[a,b,c,d,e,f] g)).cell? (ad A 2)=Z c /\ (W.alloc (al #[a,b,c,d,e,f] g)).cell? (ad A 3)=Z d /\ (W.alloc (al #[a,b,c,d,e,f] g)).cell? (ad A 4)=Z e /\ (W.alloc (al #[a,b,c,d,e,f] g)).cell? (ad A 5)=Z f) /\ (W.alloc (al #[a,b,c,d,e,f] g)).frozen? (ad A 0)=ak /\ (W.alloc (al #[a,b,c,d,e,f] g)).frozen? (ad A 1)=ak /\ (W.alloc (al #[a,b,c,d,e,f] g)).frozen? (ad A 2)=ak /\ (W.alloc (al #[a,b,c,d,e,f] g)).frozen? (ad A 3)=ak /\ (W.alloc (al #[a,b,c,d,e,f] g)).frozen? (ad A 4)=ak /\ (W.alloc (al #[a,b,c,d,e,f] g)).frozen? (ad A 5)=ak:=by
 subst h;simp
theorem tk {a b:af} {f g h i j k l m n o p q t u:ay} {e x:TypeId} (r:((a.alloc (al #[f,g,h,i,j,k] e)).alloc (al #[l,m,n,o,p,q] e)).alloc (al #[t,u] x)=b):
  gG b a.heap.size f g h i j k l m n o p q /\ ap a b /\ b.cell? (ad (a.heap.size+1+1) 0)=Z t /\ b.cell? (ad (a.heap.size+1+1) 1)=Z u /\ b.frozen? (ad (a.heap.size+1+1) 0)=ak /\ b.frozen? (ad (a.heap.size+1+1) 1)=ak /\ b.heap.size=a.heap.size+1+1+1:=by
 obtain⟨c,d⟩:∃c,(a.alloc (al #[f,g,h,i,j,k] e)).alloc (al #[l,m,n,o,p,q] e)=c:=⟨_,I⟩;have s:ap a c:=by rw[<- d];exact aD
 have w:c.heap.size=a.heap.size+1+1:=by rw[<- d];simp
 have v:=jU (w:=a) d;rw[d] at r;subst r;rw[<- w];refine⟨v.below (az _ _),s.trans ((az _ _).mono s.size),?_,?_,?_,?_,?_⟩;all_goals simp
theorem DP {a b c:af} {e f g h i j o p q r s t m n:ay} (u:gG b a.heap.size e f g h i j o p q r s t) (v:ap a b) (k: b.cell? (ad (a.heap.size+1+1) 0)=Z m) (l: b.cell? (ad (a.heap.size+1+1) 1)=Z n) (x: b.frozen? (ad (a.heap.size+1+1) 0)=ak) (y: b.frozen? (ad (a.heap.size+1+1) 1)=ak) (w:b.heap.size=a.heap.size+1+1+1) (d:ap b c):
  gG c a.heap.size e f g h i j o p q r s t /\ c.cell? (ad (a.heap.size+1+1) 0)=Z m /\ c.cell? (ad (a.heap.size+1+1) 1)=Z n /\ c.frozen? (ad (a.heap.size+1+1) 0)=ak /\ c.frozen? (ad (a.heap.size+1+1) 1)=ak /\ ap a c /\ (b.heap.size=a.heap.size+1+1+1 /\ a.heap.size+1+1+1<=c.heap.size) :=
 ⟨u.below d,ag d k,ag d l,aB d k x,aB d l y,au v d,w,by have:=d.size;omega⟩
theorem DQ {b q f g:af} {h i j k l m s t u v w x V W p:ay} {r:ac} (M:gG f b.heap.size h i j k l m s t u v w x) (n:ap b f) (o:av f q.heap.size p r) (Y:q.heap.size=b.heap.size+1+1+1 /\ b.heap.size+1+1+1<=f.heap.size) (N:(f.setCell (ad (b.heap.size+1+1) 0) V).setCell (ad (b.heap.size+1+1) 1) W=g):
  gG g b.heap.size h i j k l m s t u v w x /\ ap b g /\ b.heap.size+1+1+1<=g.heap.size /\ av g (b.heap.size+1+1+1) p r:=by
 have a:aA (b.heap.size+1+1) (b.heap.size+1+1+1) f g:=by rw[<- N];exact(aA.set ⟨bL _,gB _⟩).trans (aA.set ⟨bL _,gB _⟩)
 obtain⟨⟨z,A,B,C,D,F⟩,⟨P,Q,R,S,T,U⟩,⟨G,H,I,J,K,L⟩,e⟩:=M;have d:b.heap.size<b.heap.size+1+1 \/ b.heap.size+1+1+1<=b.heap.size:=bj E;have c:b.heap.size+1<b.heap.size+1+1 \/ b.heap.size+1+1+1<=b.heap.size+1:=bj E;have X:=a.size;refine⟨⟨⟨a.keep z d,a.keep A d,a.keep B d,a.keep C d,a.keep D d,a.keep F d⟩,⟨a.keep P c,a.keep Q c,a.keep R c,a.keep S c,a.keep T c,a.keep U c⟩,⟨(a.keepF ⟨e,G⟩ c).2,(a.keepF ⟨e,H⟩ c).2,(a.keepF ⟨e,I⟩ c).2,(a.keepF ⟨e,J⟩ c).2,(a.keepF ⟨e,K⟩ c).2,(a.keepF ⟨e,L⟩ c).2⟩,E⟩,?_,E,?_⟩
 ·exact aA.below n n.size a E
 ·exact(a.row o (λ O y=>aP (by have:=(o.block O y).1;omega))).mono E
theorem te (G:J->Prop) (a:aR) (y:bc) (g:aG) (i o:J) (b:af) (ZV:ay) (ZW:ff b G a ZV) (Q:gE b G g i o y.parts):
  aY prog 103 #[ZV,am y.size g i o,aw y.ok] b λ Z1 f=>(∃Z3,Z1=aV (aL #[Z3,aE (ai (gW y++[10]))]) /\ ff f G (fi a y) Z3) /\ ap b f:=by
 have Z4:=ZW;obtain⟨ZL,ZN,ZS,x,w,s,u,t,rfl,ZJ,ZP,ZQ⟩:=ZW;obtain⟨c,l,ZM⟩:=y;simp only at Q ⊢;cases ZM
 ·have S:U (gW ⟨c,l,ak⟩++[10]=[110,111,10]):=rfl;have R:U (fi a ⟨c,l,ak⟩=a):=rfl;rw[S.o,R.o];clear Q;go_enter func103,ntmps103;go_wp2;refine aK (v:=aL #[ba #[M a.s,aa ZL ZN ZS,M a.t,aa x w s,M a.a,aa u a.gg.length t],aE (ai [110,111,10])]) (by simp[aJ,results103,go_sem];rfl) I ?_;exact sm
 ·have ZX:=hJ c l;have S:U (gW ⟨c,l,ae⟩++[10]=bd c l++[10]):=rfl;have R:U (fi a ⟨c,l,ae⟩=⟨c,l,a.t,a.ys,a.a,a.gg⟩):=rfl;rw[S.o,R.o];have Z2:U (∀f,an f g i l->aC 22 #[am c g i o] f (aE (ai (bd c l)))):= λ f ZR=>k9 c _ _ _ l f ZR
  obtain⟨q,ZY⟩:∃q,bd c l=q:=⟨_,I⟩;rw[ZY] at Z2 ZX ⊢;have ZI:¬9223372036854775807<(ai q).size +1:=by rw[bs];omega
  have ZT:U (ai q++aN #[10]=ai (q++[10])):=by rw[U,show aN #[10]=ai [10] from I,dd]
  clear ZY ZX;go_enter func103,ntmps103;go_wp2_with fail;refine hd ?_;intro e m;have Z0:ap b e:=by rw[<- m];exact aD
  have ZO:an e g i l:=(Q.row.below Z0).view;have T: e.cell? (ad b.heap.size 0)=Z (M c):=by rw[<- m];simp
  have V: e.cell? (ad b.heap.size 1)=Z (aa g i o):=by rw[<- m];simp
  have W: e.cell? (ad b.heap.size 2)=Z (M a.t):=by rw[<- m];simp
  have X: e.cell? (ad b.heap.size 3)=Z (aa x w s):=by rw[<- m];simp
  have Y: e.cell? (ad b.heap.size 4)=Z (M a.a):=by rw[<- m];simp
  have Z9: e.cell? (ad b.heap.size 5)=Z (aa u a.gg.length t):=by rw[<- m];simp
  have Z6: e.cell? (ad (b.heap.size+1) 0)=Z (M c):=by rw[<- m];simp
  have Z5: e.cell? (ad (b.heap.size+1) 1)=Z (aa g i o):=by rw[<- m];simp
  obtain⟨⟨z,A,B,C,D,F⟩,H,K,L,N,O,P⟩:=Ox (W:=(b.alloc (al #[M c,aa g i o,M a.t,aa x w s,M a.a,aa u a.gg.length t] 32)).alloc (al #[M c,aa g i o] 29)) (A:=b.heap.size+1+1) 32 (M 0) (aa aj 0 0) (M 0) (aa aj 0 0) (M 0) (aa aj 0 0) ar;rw[m] at z A B C D F H K L N O P;clear m;refine gJ (λ f:af=>aA (b.heap.size+1+1) (b.heap.size+1+1+1) e f) (λ _=>True) 99 ah ?_;change de _ _ _ _ _ _ _ _ _ _ (dH e);have Z8:=bI e;have p:aA (b.heap.size+1+1) (b.heap.size+1+1+1) e (dH e):=aA.of_below Z8;refine eq 0 (v:=?_) I p (λ f n=>?_) ?_;rotate_left
  ·have T:=n.keep T (bj E);have V:=n.keep V (bj E);have W:=n.keep W (bj E);have X:=n.keep X (bj E);have Y:=n.keep Y (bj E);have Z9:=n.keep Z9 (bj E);go_simp;first | done | rfl
  simp only[aT];refine eq 1 (v:=?_) I p (λ f n=>?_) ?_;rotate_left
  ·have Z6:=n.keep Z6 (bj E);have Z5:=n.keep Z5 (bj E);go_simp;first | done | rfl
  simp only[aT];refine bR 2 I (λ k j=>?_);go_simp;refine(Z2.o _ (ZO.below Z8)).mono ?_;rintro Z1 ZK ⟨rfl,r⟩;have d:=au Z8 r;go_simp;have v:aA (b.heap.size+1+1) (b.heap.size+1+1+1) e ZK:=aA.of_below d;refine eu ?_;intro p;clear j k r v;refine eq 3 (v:=?_) I p (λ f n=>?_) ?_;rotate_left
  ·go_simp;first | done | rfl
  simp only[aT];replace H:=aB d z H;replace z:=ag d z;replace K:=aB d A K;replace A:=ag d A;replace L:=aB d B L;replace B:=ag d B;replace N:=aB d C N;replace C:=ag d C;replace O:=aB d D O;replace D:=ag d D;replace P:=aB d F P;replace F:=ag d F;clear T V W X Y Z9 Z6 Z5;refine bR 4 I (λ k j=>?_);refine c7 ?_;clear j k;refine bR 5 I (λ k j=>?_);refine c7 ?_;refine eh ?_;clear j k;replace d:=au Z0 d;go_wp2;refine aK (v:=aL #[ba #[M c,aa g i o,M a.t,aa x w s,M a.a,aa u a.gg.length t],aE (ai q++aN #[10])]) (by simp[aJ,results103,go_sem,H,K,L,N,O,P,z,A,B,C,D,F]) I ?_;have ZZ:=eP (B:=b.heap.size+1+1) d E (M c) (aa g i o) (M a.t) (aa x w s) (M a.a) (aa u a.gg.length t);have Z7:= λ f (ZU:cA G _ f)=>cA.of_below ZZ ZU
  exact⟨⟨_,by rw[ZT.o],g,i,o,x,w,s,u,t,I,Q.mono Z7,ZP.mono Z7,ZQ.mono Z7⟩,ZZ⟩
theorem Oy (a:aR) (j:a.Ok):c6 92 [97,110,100] a (bf a (ck (λ r B=>r&&&B) a.s a.xs a.t a.ys)).1 (bf a (ck (λ r B=>r&&&B) a.s a.xs a.t a.ys)).2:=by
 have o:U (ai [97,110,100]=aN #[97,110,100]):=ab I;refine cc ?_;intro z b c d f i g l m n x w t s u;refine hG ?_;intro q k;obtain⟨e,p⟩:∃e,(ck (λ r B=>r&&&B) a.s a.xs a.t a.ys)=e:=⟨_,I⟩;rw[p];have v:U (∀A,an A c d a.xs->an A i g a.ys->bp 192 #[am a.s c d f,am a.t i g l] A e):= λ A ZW ZK=>by rw[<- p];exact tg a.s a.t _ _ _ _ _ _ a.xs a.ys A ZW ZK
 exact lX
theorem Ob (a:aR) (j:a.Ok):c6 92 [111,114] a (bf a (ck (λ r B=>r|||B) a.s a.xs a.t a.ys)).1 (bf a (ck (λ r B=>r|||B) a.s a.xs a.t a.ys)).2:=by
 have o:U (ai [111,114]=aN #[111,114]):=ab I;refine cc ?_;intro z b c d f i g l m n x w t s u;refine hG ?_;intro q k;obtain⟨e,p⟩:∃e,(ck (λ r B=>r|||B) a.s a.xs a.t a.ys)=e:=⟨_,I⟩;rw[p];have v:U (∀A,an A c d a.xs->an A i g a.ys->bp 193 #[am a.s c d f,am a.t i g l] A e):= λ A ZW ZK=>by rw[<- p];exact DX a.s a.t _ _ _ _ _ _ a.xs a.ys A ZW ZK
 exact lX
theorem Oz (a:aR) (j:a.Ok):c6 92 [120,111,114] a (bf a (ck (λ r B=>r^^^B) a.s a.xs a.t a.ys)).1 (bf a (ck (λ r B=>r^^^B) a.s a.xs a.t a.ys)).2:=by
 have o:U (ai [120,111,114]=aN #[120,111,114]):=ab I;refine cc ?_;intro z b c d f i g l m n x w t s u;refine hG ?_;intro q k;obtain⟨e,p⟩:∃e,(ck (λ r B=>r^^^B) a.s a.xs a.t a.ys)=e:=⟨_,I⟩;rw[p];have v:U (∀A,an A c d a.xs->an A i g a.ys->bp 194 #[am a.s c d f,am a.t i g l] A e):= λ A ZW ZK=>by rw[<- p];exact El a.s a.t _ _ _ _ _ _ a.xs a.ys A ZW ZK
 exact lX
theorem Nr (a:aR) (j:a.Ok):c6 92 [106,111,105,110] a (bf a (ij a.s a.xs a.t a.ys)).1 (bf a (ij a.s a.xs a.t a.ys)).2:=by
 have o:U (ai [106,111,105,110]=aN #[106,111,105,110]):=ab I;refine cc ?_;intro z b c d f i g l m n x w t s u;refine hG ?_;intro q k;obtain⟨e,p⟩:∃e,(ij a.s a.xs a.t a.ys)=e:=⟨_,I⟩;rw[p];have v:U (∀A,an A c d a.xs->an A i g a.ys->bp 195 #[am a.s c d f,am a.t i g l] A e):= λ A B ZW=>by rw[<- p];exact Ew a.s a.t _ _ _ _ _ _ a.xs a.ys A B ZW
 exact lX
theorem M3 (a:aR) (j:a.Ok):c6 92 [121,97,103,101,114] a (bf a (iq a.s a.xs a.t a.ys)).1 (bf a (iq a.s a.xs a.t a.ys)).2:=by
 have o:U (ai [121,97,103,101,114]=aN #[121,97,103,101,114]):=ab I;refine cc ?_;intro z b c d f i g l m n x w t s u;refine hG ?_;intro q k;obtain⟨e,p⟩:∃e,(iq a.s a.xs a.t a.ys)=e:=⟨_,I⟩;rw[p];have v:U (∀A,an A c d a.xs->an A i g a.ys->bp 196 #[am a.s c d f,am a.t i g l] A e):= λ A B ZW=>by rw[<- p];exact Fh a.s a.t _ _ _ _ _ _ a.xs a.ys A B ZW
 exact lX
theorem OA (a:aR) (j:a.Ok):c6 92 [110,111,116] a (bf a ((⟨a.s,dv a.xs,ae⟩:bc))).1 (bf a ((⟨a.s,dv a.xs,ae⟩:bc))).2:=by
 have o:U (ai [110,111,116]=aN #[110,111,116]):=ab I;refine cc ?_;intro z b c d f i g l m n x w t s u;refine hG ?_;intro q k;obtain⟨e,p⟩:∃e,((⟨a.s,dv a.xs,ae⟩:bc))=e:=⟨_,I⟩;rw[p];have v:U (∀A,an A c d a.xs->bp 197 #[am a.s c d f] A e):= λ A B=>by rw[<- p];exact Fi a.s _ _ _ a.xs A B j.m
 exact lU
theorem Lb (a:aR) (j:a.Ok):c6 92 [110,111,114,109,97,108] a (bf a (bh a.s (a.xs.set 0 0))).1 (bf a (bh a.s (a.xs.set 0 0))).2:=by
 have o:U (ai [110,111,114,109,97,108]=aN #[110,111,114,109,97,108]):=ab I;refine cc ?_;intro z b c d f i g l m n x w t s u;refine hG ?_;intro q k;obtain⟨e,A⟩:∃e,(bh a.s (a.xs.set 0 0))=e:=⟨_,I⟩;rw[A];obtain⟨B,Z1⟩:∃B,c=Z (ad B 0):=by
  obtain⟨ZK,Zq,D,_⟩:=t.row.form (by obtain⟨ZJ,Zp,_⟩:=bt j.m;have:=(b8 ZJ).1;omega);injection D with G _ _;exact⟨ZK,G⟩
 have v:U (∀p,an p c d a.xs->bp 198 #[am a.s c d f] p e):= λ p Z0=>by rw[<- A];rw[Z1] at Z0 ⊢;exact EI a.s _ _ _ a.xs p Z0 j.m
 clear A j k Z1;exact vq
theorem Lc (a:aR) (j:a.Ok):c6 92 [115,104,97,114,101,100] a (bf a (gw a.s a.xs)).1 (bf a (gw a.s a.xs)).2:=by
 have o:U (ai [115,104,97,114,101,100]=aN #[115,104,97,114,101,100]):=ab I;refine cc ?_;intro z b c d f i g l m n x w t s u;refine hG ?_;intro q k;obtain⟨e,p⟩:∃e,(gw a.s a.xs)=e:=⟨_,I⟩;rw[p];have v:U (∀A,an A c d a.xs->bp 199 #[am a.s c d f] A e):= λ A B=>by rw[<- p];exact Eh a.s _ _ _ a.xs A B
 exact lU
theorem OB (a:aR) (j:a.Ok):c6 92 [99,117,116] a (bf a (fT a.s a.xs a.a)).1 (bf a (fT a.s a.xs a.a)).2:=by
 have o:U (ai [99,117,116]=aN #[99,117,116]):=ab I;refine cc ?_;intro z b c d f i g l m n x w t s u;refine hG ?_;intro q k;obtain⟨e,p⟩:∃e,(fT a.s a.xs a.a)=e:=⟨_,I⟩;rw[p];have v:U (∀A,an A c d a.xs->bp 200 #[am a.s c d f,M a.a] A e):= λ A B=>by rw[<- p];rw[k];exact FZ a.s q _ _ _ a.xs A B j.m
 exact lU
theorem M4 (a:aR) (j:a.Ok):c6 92 [108,101,97,114,110] a (bf a (eK a.s a.xs a.a)).1 (bf a (eK a.s a.xs a.a)).2:=by
 have o:U (ai [108,101,97,114,110]=aN #[108,101,97,114,110]):=ab I;refine cc ?_;intro z b c d f i g l m n x w t s u;refine hG ?_;intro q k;obtain⟨e,p⟩:∃e,(eK a.s a.xs a.a)=e:=⟨_,I⟩;rw[p];have v:U (∀A,an A c d a.xs->bp 201 #[am a.s c d f,M a.a] A e):= λ A B=>by rw[<- p];exact Fb a.s a.a _ _ _ a.xs A B
 exact lU
theorem M5 (a:aR) (j:a.Ok):c6 92 [102,111,99,117,115] a (bf a (gS a.s a.xs a.a)).1 (bf a (gS a.s a.xs a.a)).2:=by
 have o:U (ai [102,111,99,117,115]=aN #[102,111,99,117,115]):=ab I;refine cc ?_;intro z b c d f i g l m n x w t s u;refine hG ?_;intro q k;obtain⟨e,p⟩:∃e,(gS a.s a.xs a.a)=e:=⟨_,I⟩;rw[p];have v:U (∀A,an A c d a.xs->bp 202 #[am a.s c d f,M a.a] A e):= λ A B=>by rw[<- p];rw[k];exact Fg a.s q _ _ _ a.xs A B j.m
 exact lU
theorem M6 (a:aR) (j:a.Ok):c6 92 [102,105,114,115,116] a (bf a (cf ak a.s a.xs)).1 (bf a (cf ak a.s a.xs)).2:=by
 have o:U (ai [102,105,114,115,116]=aN #[102,105,114,115,116]):=ab I;refine cc ?_;intro z b c d f i g l m n x w t s u;refine hG ?_;intro q k;obtain⟨e,p⟩:∃e,(cf ak a.s a.xs)=e:=⟨_,I⟩;rw[p];have v:U (∀A,an A c d a.xs->bp 175 #[am a.s c d f] A e):= λ A B=>by rw[<- p];exact zQ a.s _ _ _ a.xs A B
 exact lU
theorem Ld (a:aR) (j:a.Ok):c6 92 [115,101,99,111,110,100] a (bf a (cf ae a.s a.xs)).1 (bf a (cf ae a.s a.xs)).2:=by
 have o:U (ai [115,101,99,111,110,100]=aN #[115,101,99,111,110,100]):=ab I;refine cc ?_;intro z b c d f i g l m n x w t s u;refine hG ?_;intro q k;obtain⟨e,p⟩:∃e,(cf ae a.s a.xs)=e:=⟨_,I⟩;rw[p];have v:U (∀A,an A c d a.xs->bp 176 #[am a.s c d f] A e):= λ A B=>by rw[<- p];exact tn a.s _ _ _ a.xs A B
 exact lU
theorem Ns (a:aR) (j:a.Ok):c6 92 [112,97,105,114] a (bf a (fC a.s a.xs a.t a.ys)).1 (bf a (fC a.s a.xs a.t a.ys)).2:=by
 have o:U (ai [112,97,105,114]=aN #[112,97,105,114]):=ab I;refine cc ?_;intro z b c d f i g l m n x w t s u;refine hG ?_;intro q k;obtain⟨e,p⟩:∃e,(fC a.s a.xs a.t a.ys)=e:=⟨_,I⟩;rw[p];have v:U (∀A,an A c d a.xs->an A i g a.ys->bp 177 #[am a.s c d f,am a.t i g l] A e):= λ A B ZW=>by rw[<- p];exact zB a.s a.t _ _ _ _ _ _ a.xs a.ys A B ZW
 exact lX
theorem Nt (a:aR) (j:a.Ok):c6 92 [112,97,115,115] a (bf a (il a.s a.xs a.t a.ys)).1 (bf a (il a.s a.xs a.t a.ys)).2:=by
 have o:U (ai [112,97,115,115]=aN #[112,97,115,115]):=ab I;refine cc ?_;intro z b c d f i g l m n x w t s u;refine hG ?_;intro q k;obtain⟨e,p⟩:∃e,(il a.s a.xs a.t a.ys)=e:=⟨_,I⟩;rw[p];have v:U (∀A,an A c d a.xs->an A i g a.ys->bp 203 #[am a.s c d f,am a.t i g l] A e):= λ A B ZW=>by rw[<- p];exact FV a.s a.t _ _ _ _ _ _ a.xs a.ys A B ZW
 exact lX
theorem Nu {a:ax} (b:aR) (c:a≠[97,110,100]) (k:a≠[111,114]) (p:a≠[120,111,114]) (g:a≠[106,111,105,110]) (q:a≠[121,97,103,101,114]) (j:a≠[110,111,116]) (i:a≠[110,111,114,109,97,108]) (o:a≠[115,104,97,114,101,100]) (d:a≠[99,117,116]) (Y:a≠[108,101,97,114,110]) (f:a≠[102,111,99,117,115]) (e:a≠[102,105,114,115,116]) (n:a≠[115,101,99,111,110,100]) (l:a≠[112,97,105,114]) (m:a≠[112,97,115,115]):c6 92 a b iK b:=by
 have F:=bn c;have P:=bn k;have U:=bn p;have K:=bn g;have V:=bn q;have O:=bn j;have N:=bn i;have T:=bn o;have G:=bn d;have L:=bn Y;have J:=bn f;have H:=bn e;have S:=bn n;have Q:=bn l;have R:=bn m;clear c k p g q j i o d Y f e n l m;intro A X W B r;have Z4:=r;obtain⟨y,w,s,z,x,t,v,u,rfl,D,E,C⟩:=r;go_enter func92,ntmps92;go_wp2_with fail;refine aK (v:=aL #[ba #[M b.s,aa y w s,M b.t,aa z x t,M b.a,aa v b.gg.length u],aE (ai [119,104,97,116,10])]) (by simp[aJ,results92,go_sem];rfl) I ?_;exact sm
theorem M7 (a:aR):c6 11 [99,108,101,97,114] a [111,107] ⟨a.s,a.xs,a.t,a.ys,a.a,[]⟩:=by
 have o:U (ai [99,108,101,97,114]=aN #[99,108,101,97,114]):=ab I;refine cc ?_;intro z b c d f i g l m n x w t s u;have q:U (∀j,ap b j->ff j z ⟨a.s,a.xs,a.t,a.ys,a.a,[]⟩ (ba #[M a.s,aa c d f,M a.t,aa i g l,M a.a,aq (b.heap.size+1+1) 0 0])):= λ j p =>
  ⟨c,d,f,i,g,l,Z (ad (b.heap.size+1+1) 0),0,I,t.mono (λ k e=>cA.of_below p e),s.mono (λ k e=>cA.of_below p e),⟨[],λ k _=>⟨I,λ v y r=>by simp at r⟩⟩⟩
 go_enter func11,ntmps11;go_wp2_with fail;refine aK (v:=aL #[ba #[M a.s,aa c d f,M a.t,aa i g l,M a.a,aq (b.heap.size+1+1) 0 0],aE (ai [111,107,10])]) (by simp[aJ,results11,go_sem];rfl) I ?_;refine⟨⟨_,I,q.o _ ?_⟩,?_⟩;all_goals exact aD
theorem H1 (a:aR) (Z5:a.Ok):c6 11 [101,120,99,104,97,110,103,101] a (bd a.t a.ys) ⟨a.t,a.ys,a.s,a.xs,a.a,a.gg⟩:=by
 have o:U (ai [101,120,99,104,97,110,103,101]=aN #[101,120,99,104,97,110,103,101]):=ab I;refine cc ?_;intro z b c d f i g l m n x w t s u;have F:U (∀e,an e i g a.ys->aC 22 #[am a.t i g l] e (aE (ai (bd a.t a.ys)))):= λ e ZV=>k9 a.t _ _ _ a.ys e ZV
 have Z2:¬9223372036854775807<(ai (bd a.t a.ys)).size +1:=by rw[bs];have:=hJ a.t a.ys;omega
 have D:U (ai (bd a.t a.ys)++aN #[10]=ai (bd a.t a.ys++[10])):=by rw[U,show aN #[10]=ai [10] from I,dd]
 obtain⟨y,J⟩:∃y,bd a.t a.ys=y:=⟨_,I⟩;rw[J] at F Z2 D ⊢;clear J Z5;go_enter func11,ntmps11;go_wp2_with fail;refine hd ?_;intro A K;obtain⟨q,G,_,_,_,_,Z3⟩:=tk K;have Z4:an A i g a.ys:=(s.row.below G).view;clear K Z3;refine ia ?_;intro C p;refine kZ ?_;refine bR 3 I (λ k j=>?_);go_simp;refine(F.o _ (Z4.below C)).mono ?_;rintro ZU ZR ⟨rfl,r⟩;refine s4 ?_;intro W p;clear j k r;obtain⟨L,N,O,P,Q,R,Z1,Z0,ZZ,ZY,ZX,ZW,V,X,Y,Z9,Z8,Z7⟩:=cq q W;refine bR 5 I (λ k j=>?_);refine c7 ?_;clear j k;refine bR 6 I (λ k j=>?_);refine c7 ?_;refine eh ?_;clear j k;replace W:=au G W;go_wp2;refine aK (v:=aL #[ba #[M a.t,aa i g l,M a.s,aa c d f,M a.a,aa m a.gg.length n],aE (ai y++aN #[10])]) (by simp[aJ,results11,go_sem,V,X,Y,Z9,Z8,Z7,Z1,Z0,ZZ,ZY,ZX,ZW]) I ?_;have H:=eP (B:=b.heap.size+1) W E (M a.t) (aa i g l) (M a.s) (aa c d f) (M a.a) (aa m a.gg.length n);have B:= λ e (T:cA z _ e)=>cA.of_below H T
 exact⟨⟨_,by rw[D.o],i,g,l,c,d,f,m,n,I,s.mono B,t.mono B,u.mono B⟩,H⟩
theorem Gj (J:ep) (a:aR) (G:a.Ok):c6 11 [115,112,101,99,105,97,108,105,122,101,100] a (iE (J.sp a)) a:=by
 have o:U (ai [115,112,101,99,105,97,108,105,122,101,100]=aN #[115,112,101,99,105,97,108,105,122,101,100]):=ab I;refine cc ?_;intro z b c d f i g l m n x w t s u;obtain⟨y,F⟩:∃y,J.sp a=y:=⟨_,I⟩;rw[F];have T:U (∀e,an e c d a.xs->an e i g a.ys->aC 33 #[am a.s c d f,am a.t i g l] e (aw y)):= λ e W X=>by rw[<- F];exact Ek a.s a.t _ _ _ _ _ _ a.xs a.ys (J.sp a) e W X (by rw[<- W.len];exact J.hsp a)
 exact xe
theorem OC (N:ep) (c:aR) (e:c.Ok) (d:ax):c6 11 d c (iI N c d).1 (iI N c d).2:=by
 by_cases m:d=[108,101,102,116]
 ·subst m;exact Nm c e
 by_cases p:d=[114,105,103,104,116]
 ·subst p;exact M1 c e
 by_cases q:d=[115,101,116]
 ·subst q;exact Ow c e
 by_cases l:d=[107,105,110,100,115]
 ·subst l;exact M2 c e
 by_cases f:d=[98,101,108,105,101,102]
 ·subst f;exact K8 c e
 by_cases o:d=[112,111,115,115,105,98,108,101]
 ·subst o;exact HX c e
 by_cases g:d=[99,104,97,110,99,101]
 ·subst g;exact K9 c e
 by_cases r:d=[115,105,122,101]
 ·subst r;exact Nn c e
 by_cases Q:d=[99,111,110,102,108,105,99,116]
 ·subst Q;exact HY c e
 by_cases k:d=[100,105,115,116,97,110,99,101]
 ·subst k;exact HZ c e
 by_cases s:d=[115,112,101,99,105,97,108,105,122,101,100]
 ·subst s;exact Gj N c e
 by_cases n:d=[108,101,115,115]
 ·subst n;exact No c e
 by_cases i:d=[99,111,110,116,111,117,114]
 ·subst i;exact Jr c e
 by_cases j:d=[99,111,114,110,101,114,115]
 ·subst j;exact Jq c e
 by_cases b:d=[101,120,99,104,97,110,103,101]
 ·subst b;exact H1 c e
 by_cases a:d=[99,108,101,97,114]
 ·subst a;exact M7 c
 by_cases L:d=[115,97,102,101,115,116]
 ·subst L;exact fy m p q l f o g r Q k s n i j b a (La c e)
 by_cases J:d=[98,111,108,100,101,115,116]
 ·subst J;exact fy m p q l f o g r Q k s n i j b a (Js c e)
 by_cases K:d=[101,118,101,110]
 ·subst K;exact fy m p q l f o g r Q k s n i j b a (Nq c e)
 by_cases M:d=[117,110,98,101,97,116,101,110]
 ·subst M;exact fy m p q l f o g r Q k s n i j b a (H0 c e)
 by_cases I:d=[98,101,115,116]
 ·subst I;exact fy m p q l f o g r Q k s n i j b a (Np c e)
 by_cases t:d=[97,110,100]
 ·subst t;exact fy m p q l f o g r Q k s n i j b a (hl L J K M I (Oy c e))
 by_cases B:d=[111,114]
 ·subst B;exact fy m p q l f o g r Q k s n i j b a (hl L J K M I (Ob c e))
 by_cases G:d=[120,111,114]
 ·subst G;exact fy m p q l f o g r Q k s n i j b a (hl L J K M I (Oz c e))
 by_cases x:d=[106,111,105,110]
 ·subst x;exact fy m p q l f o g r Q k s n i j b a (hl L J K M I (Nr c e))
 by_cases H:d=[121,97,103,101,114]
 ·subst H;exact fy m p q l f o g r Q k s n i j b a (hl L J K M I (M3 c e))
 by_cases A:d=[110,111,116]
 ·subst A;exact fy m p q l f o g r Q k s n i j b a (hl L J K M I (OA c e))
 by_cases z:d=[110,111,114,109,97,108]
 ·subst z;exact fy m p q l f o g r Q k s n i j b a (hl L J K M I (Lb c e))
 by_cases F:d=[115,104,97,114,101,100]
 ·subst F;exact fy m p q l f o g r Q k s n i j b a (hl L J K M I (Lc c e))
 by_cases u:d=[99,117,116]
 ·subst u;exact fy m p q l f o g r Q k s n i j b a (hl L J K M I (OB c e))
 by_cases y:d=[108,101,97,114,110]
 ·subst y;exact fy m p q l f o g r Q k s n i j b a (hl L J K M I (M4 c e))
 by_cases w:d=[102,111,99,117,115]
 ·subst w;exact fy m p q l f o g r Q k s n i j b a (hl L J K M I (M5 c e))
 by_cases v:d=[102,105,114,115,116]
 ·subst v;exact fy m p q l f o g r Q k s n i j b a (hl L J K M I (M6 c e))
 by_cases E:d=[115,101,99,111,110,100]
 ·subst E;exact fy m p q l f o g r Q k s n i j b a (hl L J K M I (Ld c e))
 by_cases C:d=[112,97,105,114]
 ·subst C;exact fy m p q l f o g r Q k s n i j b a (hl L J K M I (Ns c e))
 by_cases D:d=[112,97,115,115]
 ·subst D;exact fy m p q l f o g r Q k s n i j b a (hl L J K M I (Nt c e))
 have O:iI N c d=(iK,c):=by
  exact xv
 rw[O];exact fy m p q l f o g r Q k s n i j b a (hl L J K M I (Nu c t B G x H A z F u y w v E C D))
end Go.Proofs.YtkjnhlpccgjfhaaGreatDoor
