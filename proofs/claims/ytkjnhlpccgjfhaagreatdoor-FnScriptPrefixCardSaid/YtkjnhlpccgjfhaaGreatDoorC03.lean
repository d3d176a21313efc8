/- A part of the proof: lemmas (my texts, shortened by a program of mine). -/
import Derived.Test.YtkjnhlpccgjfhaaGreatDoorC02
set_option linter.all false
set_option maxRecDepth 100000
set_option maxHeartbeats 4000000
namespace Go.Proofs.YtkjnhlpccgjfhaaGreatDoor
open Go.RowKit
open Go.Proofs.Tryz
open Bool renaming false->ak,true->ae,true_and->eo
open Classical renaming byContradiction->jJ
open Go renaming Calls->aY,Oper->bD,Value->ay,World->af,bodyPost_ret->aK,results->aJ,wpQuiet_nil->dn
open Go.Ending renaming returned->aV
open Go.IntKind renaming i64->cz
open Go.IntWalk renaming i64_in->bV
open Go.Obj renaming cells->al
open Go.Value renaming agg->ba,bool->aw,int->ed,slice->aa,tuple->aL
open Go.World renaming block_lt_of_cell?->fX
open Go.World.ownsRow renaming lt->fs
open Int renaming gcd->ee
open List renaming length_map->ec,length_set->iu,replicate->bE,take_of_length_le->jF
open Nat renaming le_of_lt->h3,le_refl->bL,le_trans->ez,lt_of_lt_of_le->cm,lt_succ_self->gB
open Option renaming none->aj,some->Z
open Or renaming inl->bj,inr->aP
open _root_ renaming Array->bg,Bool->a8,Int->F,List->aU,Nat->J,absurd->bC,if_neg->aF,if_pos->a7,rfl->I
variable {p q:Prop}
theorem fj (a:F) (b:af):
  aY prog 139 #[M a] b λ d c=>d=aV (aw (bK a)) /\ b=c:=by
 unfold bK;go_enter func139,ntmps139;go_wp2;all_goals go_ret
 all_goals simp[*]
 omega
theorem oP (a:F) (b:af):
  aY prog 273 #[M a] b λ d c=>d=aV (aw (bi (-1000000000) 1000000000 a)) /\ b=c:=by
 unfold bi;go_enter func273,ntmps273;go_wp2;all_goals go_ret
 all_goals simp[*]
 omega
theorem oE (r:aG) (f C:J) (d:ac) (j:af) (m:an j r f d) (t:∀a,a<f-> -4000000000000000000<=O d a /\ O d a<=4000000000000000000):
  aC 251 #[aa r f C] j (M (bT d)):=by
 have S:=m.cap;have A:=ab m.len;go_enter func251,ntmps251;go_wp2;go_loopw [3,5,8] (λ g i o wr=>ap j wr /\ ∃(a:J) (c:F),a<=f /\ o=M a /\ g=M c /\ (c.natAbs:F)=es d a /\ -4000000000000000000<=c /\ c<=4000000000000000000) (λ _ _ o _=>f-(intOf o).toNat)
 case atStart=>exact⟨Below.refl _ _,0,0,E,I,I,I,E,E⟩
 case round =>
  obtain⟨l,a,g,X,rfl,rfl,u,V,W⟩:=hrel;have p:=ab u;clear u;by_cases x:a<f
  ·obtain⟨G,Z8,rfl,R,Q,T⟩:=m.at l x;have Z9:=t a x;clear t;go_wp2;obtain⟨y,rfl⟩:∃y:af,y=wr:=⟨_,I⟩;go_loopw [3,5] (λ g i D=>ap j D /\ ∃(c Z7:F),g=M c /\ i=M Z7 /\ (ee c Z7:F)=es d (a+1) /\ -4000000000000000000<=c /\ c<=4000000000000000000 /\ -4000000000000000000<=Z7 /\ Z7<=4000000000000000000) (λ _ i _=>(intOf i).natAbs)
   case atStart=>exact⟨l,g,_,I,I,by rw[ll,<- p.o,MG],E,E,E,E⟩
   case round =>
    obtain⟨s,e,b,rfl,rfl,v,H,K,L,N⟩:=hrel;have q:=ab v;clear v;by_cases n:b=0
    ·subst n;go_wp2;go_roundw
     case rel=>exact⟨s,a+1,e,E,by go_num,I,by rw[<- q.o];simp[ee],E,E⟩
     case measure=>simp[intOf];omega
    ·have P:(b != 0)=ae:=by simpa using n
     have k:=ab (MF e b n);have B:=ab (Cy e b);have Y: -4000000000000000000<=e.tmod b:=by have:=k.o;omega
     have Z:e.tmod b<=4000000000000000000:=by have:=k.o;omega
     go_wp2;go_quiet (fail);go_wp2;go_roundw
     case rel=>exact⟨qB s,b,e.tmod b,I,I,by rw[B.o];exact q.o,E,E,E,E⟩
     case measure=>show (e.tmod b).natAbs <b.natAbs;exact k.o
  ·have w:a=f:=E;have z:U (bT d=g.natAbs):=by show es d d.length=_;rw[A.o,<- w];exact p.o.symm
   clear w;go_wp2;all_goals go_ret
   all_goals refine⟨gZ ?_,l⟩
   all_goals rw[z.o]
   all_goals omega
theorem gi (f:F) (g:aG) (c n:J) (b:ac) (k:af) (j:an k g c b) (d:∀a,a<c->0<=O b a /\ O b a<=1000000000000000) (t:c<=16):
  aC 157 #[am f g c n] k (M (aW b)):=by
 have m:=ab j.len;go_enter func157,ntmps157;go_wp2;go_loop [3,5,9] (λ f w e=>∃a:J,a<=c /\ e=M a /\ f=M (cH b a)) (λ _ _ e=>c-(intOf e).toNat)
 case atStart=>exact⟨0,E,I,I⟩
 case round =>
  obtain⟨a,o,rfl,rfl⟩:=hrel;have q:=I4 b 1000000000000000 E c d a o;by_cases i:a<c
  ·obtain⟨p,v,rfl,r,_,s⟩:=j.at bA i;have u:=d a i;clear d;go_wp2;go_round
   case rel=>exact⟨a+1,E,by go_num,I⟩
   case measure=>simp[intOf];omega
  ·have x:a=c:=E;have l:U (aW b=cH b a):=by show cH b b.length=_;rw[m.o,x]
   clear x;go_wp2;go_ret;exact⟨gZ l.o.symm,bA.alloc aZ _⟩
theorem AC {a:F} {c:ac} (b:bK a=ak):aI a c=ak:=by simp[aI,b]
theorem A9 {a:F} {b:ac} (c:b.length≠aH a):aI a b=ak:=by simp[aI,c]
theorem IK {e:F} {b:ac} {a:J} (d:a<b.length) (c:bi 0 1000000 (O b a)=ak):aI e b=ak:=by
 simp only[aI];rw[jn (p:= λ a=>bi 0 1000000 (O b a)) d c];simp
theorem HH {b:F} {a:ac} (d:bK b=ae) (e:a.length=aH b) (f:∀c,c<a.length->bi 0 1000000 (O a c)=ae):
  aI b a=(bi 1 1000000 (aW a)&&(bT a==1)):=by
 simp only[aI];rw[(cp _ _).2 f,d,e];simp
theorem cn (g:F) (K:aG) (b V:J) (c:ac) (s:af) (f:an s K b c):
  aC 142 #[am g K b V] s (aw (aI g c)):=by
 have Z4:=f.cap;by_cases o:bK g=ae
 ·have z:=b8 o;refine l2 ?_;intro D;have Z2:=ho o;by_cases k:b=aH g
  ·have L:((b:F) != (aH g:F))=ak:=by rw[k];simp
   have Z7:b<=16:=E;have Z3:2<=b:=E;by_cases l:∀a,a<b->bi 0 1000000 (O c a)=ae
   ·have S:U (aI g c=(bi 1 1000000 (aW c)&&(bT c==1))):=HH o (by rw[f.len];exact k) (λ a d=>l a (by rw[<- f.len];exact d));have G:∀a,a<b->0<=O c a /\ O c a<=1000000:= λ a d=>bM.1 (l a d)
    have t:=ab G;clear G l k z;rw[S.o];go_enter func142,ntmps142;go_wp2;refine cC ?_;repeat (first | go_big_quiet_step ((go_at_call 139;exact ej (fj _ _))) | quiet_step ((go_at_call 139;exact ej (fj _ _))))
    refine dn ?_;refine dg ?_;intro B e;obtain⟨u,v,j⟩:=dZ e;clear e;go_wp2;go_loop [2,4,22] (λ _ Z5 i=>∃a:J,a<=b /\ i=M a) (λ _ _ i=>b-(intOf i).toNat)
    case atStart=>exact⟨0,E,I⟩
    case round =>
     obtain⟨a,d,rfl⟩:=hrel;by_cases q:a<b
     ·obtain⟨T,Z6,rfl,Y,_,Z9⟩:=f.at j q;have A:=t.o a q;exact xZ
     ·go_wp2_with fail;refine(gi _ _ _ _ _ _ (f.below j) (λ a d=>by have:=t.o a d;omega) Z7).mono ?_;rintro W Z1 ⟨rfl,p⟩;replace u:=ag p u;replace v:=ag p v;have w:=au j p;clear p;have Q:=ab (λ a (d:a<b)=>(by have:=t.o a d;omega: -4000000000000000000<=O c a /\ O c a<=4000000000000000000));by_cases x:bi 1 1000000 (aW c)=ae
      ·have n:=bM.1 x;go_wp2_with fail;refine(oE _ _ _ _ _ (f.below w) Q.o).mono ?_;rintro W Z0 ⟨rfl,X⟩;go_wp2;go_ret;exact⟨ct (by rw[x];rfl),au w X⟩
      ·have C:bi 1 1000000 (aW c)=ak:=by simpa using x
       rcases j0.1 C with n | n
       all_goals
        go_wp2;go_ret;exact⟨ct (by simp[C]),w⟩
   ·have R:∃m,m<b /\ bi 0 1000000 (O c m)=ak:=by
     refine jJ λ ZZ=>l λ a d=>?_
     cases r:bi 0 1000000 (O c a)
     ·exact bC ⟨a,d,r⟩ ZZ
     ·rfl
    obtain⟨m,Z8,y⟩:=R
    rw[IK (by rw[f.len];exact Z8) y]
    have P:=ab (j0.1 y)
    clear l y k z
    go_enter func142,ntmps142
    go_wp2
    refine gj ah ah ?_
    repeat (first | go_big_quiet_step ((go_at_call 139;exact ej (fj _ _))) | quiet_step ((go_at_call 139;exact ej (fj _ _))))
    refine dn ?_
    refine dg ?_
    intro B e
    obtain⟨u,v,j⟩:=dZ e
    clear e
    go_wp2
    go_loop [2,4,22] (λ _ Z5 i=>∃a:J,a<=m /\ i=M a) (λ _ _ i=>b-(intOf i).toNat)
    case atStart=>exact⟨0,E,I⟩
    case round =>
     obtain⟨a,d,rfl⟩:=hrel;have q:a<b:=E;obtain⟨T,Z6,rfl,Y,_,Z9⟩:=f.at j q;by_cases A:bi 0 1000000 (O c a)=ae
     ·have H:=bM.1 A;have L:a≠m:=by rintro rfl;have:=P.o;omega
      exact xZ
     ·have H:bi 0 1000000 (O c a)=ak:=by simpa using A
      rcases j0.1 H with n | n
      all_goals
       go_wp2;go_ret;exact⟨I,j⟩
  ·rw[A9 (by rw[f.len];exact k)];have L:((b:F) != (aH g:F))=ae:=by simpa using (show ¬(b:F)=(aH g:F) from E)
   clear z k;go_enter func142,ntmps142;go_wp2;refine cC ?_;repeat (first | go_big_quiet_step ((go_at_call 139;exact ej (fj _ _))) | quiet_step ((go_at_call 139;exact ej (fj _ _))))
   refine dn ?_;refine dg ?_;intro B e;go_wp2;go_ret;exact⟨I,(az s _).trans (e.mono ar)⟩
 ·have N:bK g=ak:=by simpa using o
  rw[AC N];clear o;go_enter func142,ntmps142;go_wp2;refine cC ?_;repeat (first | go_big_quiet_step ((go_at_call 139;exact ej (fj _ _))) | quiet_step ((go_at_call 139;exact ej (fj _ _))))
  refine dn ?_;refine dg ?_;intro B e;go_wp2;go_ret;exact⟨I,bA.trans ((az s _).trans (e.mono ar))⟩
theorem fM (c b a:F) (d:af):
  aY prog 113 #[M c,M b,M a] d λ f e=>f=aV (aw (bi b a c)) /\ d=e:=by
 unfold bi;go_enter func113,ntmps113;go_wp2;all_goals go_ret
 all_goals simp[*]
 omega
theorem kq (a:F) (d:af):
  aY prog 93 #[M a] d λ c b=>c=aV (aw (bK a)) /\ d=b:=by
 have e:U (bK a=bi 1 4 a):=rfl;rw[e.o];go_enter func93,ntmps93;go_wp2_with (go_at_call 113;refine(fM _ _ _ _).mono ?_;rintro c b ⟨rfl,rfl⟩);go_ret;exact⟨I,I⟩
theorem ni (b f:F) (g:af):
  aY prog 95 #[M b,M f] g λ d c=>d=aV (aw (b4 b f)) /\ g=c:=by
 by_cases a:bK b=ae
 ·have i:1<=b /\ b<=4:=by rcases cG.1 a with e | e | e | e<;>omega
  have j:=ho a;have k:=b8 a;go_enter func95,ntmps95;go_wp2_with (first | (go_at_call 93;refine(kq _ _).mono ?_;rintro d c ⟨rfl,rfl⟩) | (go_at_call 113;refine(fM _ _ _ _).mono ?_;rintro d c ⟨rfl,rfl⟩));go_ret;exact⟨ct (by simp[b4,a]),I⟩
 ·have l:bK b=ak:=by simpa using a
  clear a;go_enter func95,ntmps95;go_wp2_with (first | (go_at_call 93;refine(kq _ _).mono ?_;rintro d c ⟨rfl,rfl⟩));go_ret;exact⟨ct (by simp[b4,l]),I⟩
theorem fh (a c:F) (e:af) (d:bK a=ae):
  aY prog 140 #[M a,M c] e λ g f=>g=aV (aw (bi 0 ((aH a:F)-1) c)) /\ e=f:=by
 have j:1<=a /\ a<=4:=by rcases cG.1 d with b | b | b | b<;>omega
 have i:=ho d;go_enter func140,ntmps140;go_wp2;all_goals go_ret
 all_goals refine⟨ct ?_,I⟩
 all_goals simp[bi, *]
 all_goals omega
theorem me (a:F) (d:af) (c:bK a=ae):
  aY prog 224 #[M a] d λ f e=>f=aV (M ((aH a:F)-1)) /\ d=e:=by
 have g:1<=a /\ a<=4:=by rcases cG.1 c with b | b | b | b<;>omega
 have j:=ho c;have i:=b8 c;go_enter func224,ntmps224;go_wp2;go_ret;exact⟨I,I⟩
theorem oQ (c:F) (d:af):
  aY prog 206 #[M c] d λ b a=>b=aV (aw (bi (-1000000000) 1000000000 c)) /\ d=a:=by
 go_enter func206,ntmps206;go_wp2_with (go_at_call 113;refine(fM _ _ _ _).mono ?_;rintro b a ⟨rfl,rfl⟩);go_ret;exact⟨I,I⟩
theorem tz (b c:F) (i:af) (p: -4000000000000000000<=b /\ b<=4000000000000000000) (q: -4000000000000000000<=c /\ c<=4000000000000000000):
  aY prog 181 #[M b,M c] i λ l j=>l=aV (M (ee b c)) /\ i=j:=by
 go_enter func181,ntmps181;go_wp2;all_goals
  go_loop [0,1,5] (λ d a w=>∃e f:F,d=M e /\ a=M f /\ 0<=e /\ e<=4000000000000000000 /\ 0<=f /\ f<=4000000000000000000 /\ ee e f=ee b c) (λ _ a _=>(intOf a).toNat)
  case atStart=>exact⟨_,_,I,I,E,E,E,E,by simp[ee]⟩
  case round =>
   obtain⟨d,a,rfl,rfl,n,u,o,v,x⟩:=hrel;have g:=ab x;clear x;by_cases m:0<a
   ·have r:(a==0)=ak:=by simpa using (show ¬a=0 from E)
    have s:0<=d%a:=Int.emod_nonneg _ E;have t:d%a<a:=Int.emod_lt_of_pos _ m;have k:=ab (I5 d a n o);go_wp2;go_round
    case rel=>exact⟨_,_,I,I,E,E,E,E,by rw[k.o];exact g.o⟩
    case measure=>simp[intOf];omega
   ·go_wp2;go_ret;exact⟨gZ (by rw[<- g.o,show a=0 from E];simp[ee];omega),I⟩
theorem Cz (a b:F):bT [a,b]=ee a b:=by simp[bT,es,bx,O,ee]
theorem Ba {a b:F} (c:bi (-1000000000) 1000000000 a=ak):bH a b=ak:=by simp[bH,c]
theorem Bb {c a:F} (b:bi 1 1000000000 a=ak):bH c a=ak:=by simp[bH,b]
theorem AD {b a:F} (c:bi (-1000000000) 1000000000 b=ae) (d:bi 1 1000000000 a=ae):bH b a=((ee b a:F)==1):=by
 simp only[bH,c,d,eo];rw[Bool.eq_iff_iff];simp;omega
theorem oz (g d:F) (a:af):
  aC 179 #[ba #[M g,M d]] a (aw (bH g d)):=by
 by_cases f:bi (-1000000000) 1000000000 g=ae
 ·by_cases e:bi 1 1000000000 d=ae
  ·have i:=bM.1 f;have j:=bM.1 e;rw[AD f e];go_enter func179,ntmps179;go_wp2_with (first | (go_at_call 206;refine(oQ _ _).mono ?_;rintro c b ⟨rfl,rfl⟩) | (go_at_call 113;refine(fM _ _ _ _).mono ?_;rintro c b ⟨rfl,rfl⟩) | (go_at_call 181;refine(tz _ _ _ E E).mono ?_;rintro c b ⟨rfl,rfl⟩));exact mO
  ·have j:bi 1 1000000000 d=ak:=by simpa using e
   clear e;rw[Bb j];go_enter func179,ntmps179;go_wp2_with (first | (go_at_call 206;refine(oQ _ _).mono ?_;rintro c b ⟨rfl,rfl⟩) | (go_at_call 113;refine(fM _ _ _ _).mono ?_;rintro c b ⟨rfl,rfl⟩));exact mO
 ·have i:bi (-1000000000) 1000000000 g=ak:=by simpa using f
  clear f;rw[Ba i];go_enter func179,ntmps179;go_wp2_with (first | (go_at_call 206;refine(oQ _ _).mono ?_;rintro c b ⟨rfl,rfl⟩));exact mO
theorem qD (b a:F) (g:af):
  aC 205 #[ba #[M b,M a]] g (aw (gY b a)):=by
 go_enter func205,ntmps205;go_wp2_with fail;refine(oz _ _ _).mono ?_;rintro f k ⟨rfl,e⟩;obtain⟨i,j,c⟩:=dZ e;clear e;cases d:bH b a
 ·go_wp2;exact rR
 ·go_wp2_with (go_at_call 113;refine(fM _ _ _ _).mono ?_;rintro f l ⟨rfl,rfl⟩);exact rR
theorem l9 (c b:F) (a:af):
  aC 266 #[ba #[M c,M b]] a (aw (bH c b)):=by
 by_cases f:bi (-1000000000) 1000000000 c=ae
 ·by_cases e:bi 1 1000000000 b=ae
  ·have i:=bM.1 f;have g:=bM.1 e;rw[AD f e];have k:U (∀d,d<2-> -4000000000000000000<=O [c,b] d /\ O [c,b] d<=4000000000000000000):=by
    intro d n;have:d=0 \/ d=1:=E;rcases this with rfl | rfl
    ·show -4000000000000000000<=c /\ c<=_;omega
    ·show -4000000000000000000<=b /\ b<=_;omega
   go_enter func266,ntmps266;go_wp2_with (first | (go_at_call 273;refine(oP _ _).mono ?_;rintro p j ⟨rfl,rfl⟩) | (go_at_call 251;fail));refine(oE _ _ _ [c,b] _ (kH _ _ _ _ _ _ ar I I ar) k.o).mono ?_;rintro p o ⟨rfl,l⟩;go_wp2;go_ret;exact⟨ct (by rw[Cz]),(az a _).trans (((az _ _).trans (l.mono ar)).mono ar)⟩
  ·have g:bi 1 1000000000 b=ak:=by simpa using e
   clear e;rw[Bb g];rcases j0.1 g with m | m
   all_goals
    go_enter func266,ntmps266;go_wp2_with (first | (go_at_call 273;refine(oP _ _).mono ?_;rintro p j ⟨rfl,rfl⟩));go_ret;exact⟨I,az a _⟩
 ·have i:bi (-1000000000) 1000000000 c=ak:=by simpa using f
  clear f;rw[Ba i];go_enter func266,ntmps266;go_wp2_with (first | (go_at_call 273;refine(oP _ _).mono ?_;rintro p j ⟨rfl,rfl⟩));exact mO
theorem qE (b a:F) (f:af):
  aC 272 #[ba #[M b,M a]] f (aw (gY b a)):=by
 go_enter func272,ntmps272;go_wp2_with fail;refine(l9 _ _ _).mono ?_;rintro g j ⟨rfl,e⟩;obtain⟨k,i,c⟩:=dZ e;clear e;cases d:bH b a
 ·go_wp2;exact rR
 ·go_wp2;all_goals go_ret
  all_goals refine⟨ct ?_,c⟩
  all_goals simp[gY,d,bi, *]
  omega
theorem ui (r:aG) (c z:J) (b:ac) (e:F) (p:af) (n:an p r c b) (P:c<=16) (N:0<=e) (L:e<=1000000000):
  aY prog 172 #[aa r c z,M e] p λ m k=>m=aV (M (jv e b)) /\ p=k:=by
 have l:=ab n.len;cases Q:bq (λ a=>bi 0 e (O b a)) b.length
 ·obtain⟨f,D,t⟩:=ii Q;have i:U (jv e b= -1):=by simp[U,jv,Q]
  rw[i.o];rw[l.o] at D;have s:=ab t;clear t Q;go_enter func172,ntmps172;go_wp2;go_loop [4,5,6] (λ _ o g=>∃a:J,a<=f /\ g=M a /\ o=M (cH b a) /\ 0<=cH b a /\ cH b a<=1000000000*a) (λ _ _ g=>c-(intOf g).toNat)
  case atStart=>exact⟨0,E,I,I,by simp[cH,bx],by simp[cH,bx]⟩
  case round =>
   obtain⟨a,C,rfl,rfl,G,H⟩:=hrel;have j:a<c:=E;obtain⟨y,K,rfl,A,_,B⟩:=n.at bA j;cases d:bi 0 e (O b a)
   ·go_wp2_with (go_at_call 113;refine(fM _ _ _ _).mono ?_;rintro m k ⟨rfl,rfl⟩);exact mQ
   ·have w:=bM.1 d;refine pV ?_;intro q;exact ye
 ·have x:=ab ((cp _ _).1 Q);have i:U (jv e b=aW b):=by simp[U,jv,Q]
  rw[i.o];clear Q;go_enter func172,ntmps172;go_wp2;go_loop [4,5,6] (λ _ o g=>∃a:J,a<=c /\ g=M a /\ o=M (cH b a) /\ 0<=cH b a /\ cH b a<=1000000000*a) (λ _ _ g=>c-(intOf g).toNat)
  case atStart=>exact⟨0,E,I,I,by simp[cH,bx],by simp[cH,bx]⟩
  case round =>
   obtain⟨a,C,rfl,rfl,G,H⟩:=hrel;by_cases j:a<c
   ·obtain⟨y,K,rfl,A,_,B⟩:=n.at bA j;have d:=x.o a (by rw[l.o];exact j);have w:=bM.1 d;exact ye
   ·have u:a=c:=E;have i:U (aW b=cH b a):=by show cH b b.length=_;rw[l.o,u]
    clear u;go_wp2;go_ret;exact⟨gZ i.o.symm,I⟩
theorem tJ (i:aG) (c q:J) (b:ac) (g:af) (e:an g i c b) (k:∀a,a<c-> -4000000000000000000<=O b a /\ O b a<=4000000000000000000):
  aY prog 173 #[aa i c q] g λ j C=>j=aV (M (bT b)) /\ g=C:=by
 have v:=e.cap;have p:=ab e.len;go_enter func173,ntmps173;go_wp2;go_loop [3,4] (λ r f=>∃(a:J),a<=c /\ f=M a /\ r=M (es b a) /\ 0<=es b a /\ es b a<=4000000000000000000) (λ _ f=>c-(intOf f).toNat)
 case atStart=>exact⟨0,E,I,I,by simp[es,bx],by simp[es,bx]⟩
 case round =>
  obtain⟨a,z,rfl,rfl,x,y⟩:=hrel;by_cases m:a<c
  ·obtain⟨s,B,rfl,u,t,w⟩:=e.at bA m;have A:=k a m;have d:=ab (ll b a);have o:=ab (Dd (es b a) (O b a) 4000000000000000000 E E E E);clear k;go_wp2_with (go_at_call 181;refine(tz _ _ _ E E).mono ?_;rintro j C ⟨rfl,rfl⟩);go_round
   case rel=>exact⟨a+1,E,by go_num,by rw[d.o],by rw[d.o];omega,by rw[d.o];exact o.o⟩
   case measure=>simp[intOf];omega
  ·have l:a=c:=E;have n:U (bT b=es b a):=by show es b b.length=_;rw[p.o,l]
   clear l;go_wp2;go_ret;exact⟨gZ n.o.symm,I⟩
theorem De:bi 1 1000000 (-1)=ak:=aX
theorem IL {b:F} {a:ac} (d:bK b=ae) (e:a.length=aH b):aI b a=(bi 1 1000000 (jv 1000000 a)&&(bT a==1)):=by
 simp only[aI,d,e,jv];cases c:bq (λ f=>bi 0 1000000 (O a f)) (aH b)<;>simp[c,De]
theorem dA (g:F) (k:aG) (b t:J) (f:ac) (a:af) (i:an a k b f):
  aC 63 #[am g k b t] a (aw (aI g f)):=by
 have q:=ab i.len;by_cases o:bK g=ae
 ·have y:=b8 o;refine l2 ?_;intro D;have x:=ho o;by_cases j:b=aH g
  ·have w:((b:F)==(aH g:F))=ae:=by rw[j];simp
   have m:b<=16:=E;have s:=ab (IL o (by rw[i.len];exact j));rw[s.o];clear j;cases u:bi 1 1000000 (jv 1000000 f)
   ·go_enter func63,ntmps63;go_wp2_with (first | (go_at_call 93;refine(kq _ _).mono ?_;rintro d c ⟨rfl,rfl⟩) | (go_at_call 172;refine(ui _ _ _ _ _ _ (i.below (az a _)) m E E).mono ?_;rintro d c ⟨rfl,rfl⟩) | (go_at_call 113;refine(fM _ _ _ _).mono ?_;rintro d c ⟨rfl,rfl⟩));exact mO
   ·have p:U (∀e,e<b-> -4000000000000000000<=O f e /\ O f e<=4000000000000000000):=by
     intro e v;cases l:bq (λ e=>bi 0 1000000 (O f e)) f.length
     ·simp[jv,l,De] at u
     ·have:=bM.1 ((cp _ _).1 l e (by rw[q.o];exact v));omega
    go_enter func63,ntmps63
    go_wp2_with (first | (go_at_call 93;refine(kq _ _).mono ?_;rintro d c ⟨rfl,rfl⟩) | (go_at_call 172;refine(ui _ _ _ _ _ _ (i.below (az a _)) m E E).mono ?_;rintro d c ⟨rfl,rfl⟩) | (go_at_call 113;refine(fM _ _ _ _).mono ?_;rintro d c ⟨rfl,rfl⟩) | (go_at_call 173;refine(tJ _ _ _ _ _ (i.below (az a _)) p.o).mono ?_;rintro d c ⟨rfl,rfl⟩))
    go_ret
    exact⟨I,az a _⟩
  ·have w:((b:F)==(aH g:F))=ak:=by simpa using (show ¬(b:F)=(aH g:F) from E)
   rw[A9 (by rw[i.len];exact j)];clear j;exact wi
 ·have n:bK g=ak:=by simpa using o
  rw[AC n];clear o;exact wi
def b1 (a:bc) (d:J) (e:Ending) (c:af):Prop :=
 ∃b,e=aV (aL #[ba #[M a.size,b],aw a.ok]) /\ av c d b a.parts
abbrev bp (f : FuncId) (vs : bg ay) (w : af) (r : bc) : Prop := aY Tryz.prog f vs w fun e w' => b1 r w.heap.size e w' ∧ Below w.heap.size w w'
theorem b1.no (b:J) (a:af):b1 bc.no b (aV (aL #[am 0 aj 0 0,aw ak])) a:=⟨_,I,av.nil _ _⟩
theorem FK {b:af} {a h:J} {i:ay} {c:bg ay} {e:TypeId} {d:J×J} (f:b.heap[a]? =Z (al c e d)):
  (b.setCell (ad a h) i).heap[a]? =Z (al (c.setIfInBounds h i) e d):=by
 have g:=lt_of_block f;have j:b.heap[a]=al c e d:=by simpa [Array.getElem?_eq_getElem g] using f
 show (b.heap.modify a _)[a]? =_;rw[Array.getElem?_eq_getElem (by simpa using g),Array.getElem_modify_self,j];simp
theorem oR {c:af} {a i:J} {b:bg ay} {f:TypeId} {d:J×J} (e:c.heap[a]? =Z (al b f d)): c.cell? (ad a i)=b[i]? :=by simp[World.cell?,e]
theorem ED {b:af} {a e:J} {c:bg ay} {f:TypeId} (d:b.heap[a]? =Z (al c f (0,0))): b.frozen? (ad a e)=ak:=by simp[World.frozen?,d]
theorem lb {b a:af} (c:b=a):ap b a:=by subst c;exact Below.refl _ _
theorem av.setBelow {f:af} {b:J} {e:ay} {g:ac} (c:av f b e g) {a:Addr} (i:a.block<b) (d:ay):av (f.setCell a d) b e g :=
 ownsRow_setCell_other c (λ h=>by have:=(c.block _ h).1;omega) d
theorem Gl {l wr i b:af} {a f:J} {e c d:ay} {h:TypeId} {y s:ac} (n:wr.heap[a]? =Z (al #[e,c] h (0,0))) (z:a<f)
  (r:av wr f c y) (u:Below a l wr) (o:ap wr i) (m:av b f d s) (p:i.grownBy b c.ownBlock):
  b.cell? (ad a 1)=Z c /\ b.frozen? (ad a 1)=ak /\ (b.setCell (ad a 1) d).heap[a]? =Z (al #[e,d] h (0,0)) /\ av (b.setCell (ad a 1) d) f d s /\ Below a l (b.setCell (ad a 1) d) /\ a<b.heap.size:=by
 have q:=lt_of_block n;have w:Z a≠c.ownBlock:=by
  intro j;have:=(r.block a j.symm).1;omega
 have k:i.heap[a]? =Z (al #[e,c] h (0,0)):=by rw[o.block a q];exact n
 have g:b.heap[a]? =Z (al #[e,c] h (0,0)):=by rw[p.block a (lt_of_block k) w];exact k
 refine⟨by rw[oR g];rfl,ED g,by rw[FK g];rfl,?_,?_,lt_of_block g⟩
 ·refine ownsRow_setCell_other m ?_ _;intro j;have:=(m.block a j).1;omega
 ·have t:Below a l i:=u.trans (o.mono (h3 q));exact(t.grown p (h3 (lt_of_block k)) (λ x v=>by have:=(r.block x v).1;omega)).setCell aZ _
theorem AE {c:F} {a:ac} (b:bT a=0):bh c a=bc.no:=by simp[bh,b]
theorem Bo (b:ac) (a:J) (c:F) (d:a<b.length):(b.map (· /c)).take (a+1)=(b.map (· /c)).take a++[O b a/c]:=by
 rw[List.take_succ_eq_append_getElem (by simpa using d)];simp[cK _ _ d]
theorem Nd (a b:F) (c:0<=a) (d:a<=4000000000000000000) (g:1<=b):IntKind.i64.wrap (a.tdiv b)=a/b:=by
 have e:0<=a/b:=Int.ediv_nonneg c E;have f:a/b<=a:=Int.ediv_le_self _ c;rw[Int.tdiv_eq_ediv_of_nonneg c];exact bV _ E
theorem jl (k:F) (Q:aG) (d Z2:J) (a:ac) (w:af) (o:an w Q d a) (ZM:d<=16) (K:∀b,b<d->0<=O a b /\ O a b<=4000000000000000000):
  bp 218 #[M k,aa Q d Z2] w (bh k a):=by
 have q:=ab o.len;have t:=ab (λ b (i:b<d)=>(by have:=K b i;omega: -4000000000000000000<=O a b /\ O a b<=4000000000000000000));have Z9:=ab K;clear K;have L:=jm a a.length;by_cases Zw:bT a=0
 ·rw[AE Zw];have D:=ab Zw;clear Zw L;go_enter func218,ntmps218;go_wp2_with fail;refine(oE _ _ _ _ _ (o.below (az w _)) t.o).mono ?_;rintro R f ⟨rfl,s⟩;rw[D.o];obtain⟨n,r,G,H,j⟩:=j7 s;clear s;go_wp2;refine aK (v:=aL #[am 0 aj 0 0,aw ak]) (by simp[aJ,results218,go_sem,n,r]) I ⟨b1.no _ _,?_⟩;exact(j.setCell aZ _).setCell aZ _
 ·have Z1:1<=bT a:=by have:0<=bT a:=L;omega
  have Z0:bT a<=4000000000000000000:=by
   exact xV
  have D:=ab Zw;clear Zw L;obtain⟨c,C⟩:∃c,U (bT a=c):=⟨_,I⟩;rw[C.o] at Z1 Z0;have ZN:(c==0)=ak:=by simpa using (show ¬c=0 from E)
  go_enter func218,ntmps218;go_wp2_with fail;refine(oE _ _ _ _ _ (o.below (az w _)) t.o).mono ?_;rintro R f ⟨rfl,s⟩;rw[C.o];obtain⟨n,r,G,H,j⟩:=j7 s;clear s;go_wp2_with fail;have Z8:U (∀b,b<a.length->(a.map (· /c)).take (b+1)=(a.map (· /c)).take b++[O a b/c]):= λ b i=>Bo a b c i
  go_loopw [9,19] (λ _ N wr=>∃(b:J) (p:ay),b<=d /\ N=M b /\ wr.heap[f.heap.size]? =Z (al #[M k,p] 29 (0,0)) /\ av wr (f.heap.size+1) p ((a.map (· /c)).take b) /\ ap f wr) (λ _ N _=>d-(intOf N).toNat)
  case atStart=>exact⟨0,_,E,I,heap_alloc_new f _,av.nil _ _,az f _⟩
  case round =>
   obtain⟨b,p,i,rfl,g,m,e⟩:=hrel;have z:=au j e;have X:=oR (i:=1) g;by_cases A:b<d
   ·exact xC
   ·have ZY:b=d:=E;have Y:(a.map (· /c)).take b=a.map (· /c):=jF (by rw[ec,q.o];omega);rw[Y] at m;clear Y ZY;obtain⟨Z4,Z3,x,rfl,ZZ⟩:=m.ints;have y:U (bh k a=if aI k (a.map (· /c)) then ⟨k,a.map (· /c),ae⟩ else bc.no):=by
     show bh k a=_;unfold bh;rw[aF D.o,C.o]
    have W:=oR (i:=0) g;have P:=ab g;clear g;have u:=ag e n;have v:=ag e r;have S:=aB e n G;have T:=aB e r H;go_wp2_with fail;refine(cn _ _ _ _ _ _ ZZ).mono ?_;rintro R ZL ⟨rfl,l⟩;replace u:=ag l u;replace v:=ag l v;replace S:=aB l (ag e n) S;replace T:=aB l (ag e r) T;have ZP:=ag l W;have ZO:=ag l X;have V:=au z l;have Z7:=m.below l;clear W X n r G H;cases B:aI k (a.map (· /c))
    ·go_wp2;refine aK (v:=aL #[am 0 aj 0 0,aw ak]) (by simp[aJ,results218,go_sem,u,v]) I ⟨?_,(V.setCell aZ _).setCell aZ _⟩;rw[y.o,B];exact b1.no _ _
    ·go_wp2;refine aK (v:=aL #[am k Z4 Z3 x,aw ae]) (by simp[aJ,results218,go_sem,u,v]) I ⟨?_,(V.setCell aZ _).setCell aZ _⟩;exact x8
theorem hk (l:F) (Q:aG) (d Z2:J) (a:ac) (w:af) (o:an w Q d a) (ZM:d<=16) (K:∀b,b<d->0<=O a b /\ O a b<=4000000000000000000):
  bp 171 #[M l,aa Q d Z2] w (bh l a):=by
 have q:=ab o.len;have t:=ab (λ b (i:b<d)=>(by have:=K b i;omega: -4000000000000000000<=O a b /\ O a b<=4000000000000000000));have Z9:=ab K;clear K;have L:=jm a a.length;by_cases Zw:bT a=0
 ·rw[AE Zw];have D:=ab Zw;clear Zw L;go_enter func171,ntmps171;go_wp2_with fail;refine(tJ _ _ _ _ _ (o.below (az w _)) t.o).mono ?_;rintro R f ⟨rfl,k⟩;replace k:=lb k;rw[D.o];obtain⟨r,s,G,H,j⟩:=j7 k;clear k;go_wp2;refine aK (v:=aL #[am 0 aj 0 0,aw ak]) (by simp[aJ,results171,go_sem,r,s]) I ⟨b1.no _ _,?_⟩;exact(j.setCell aZ _).setCell aZ _
 ·have Z1:1<=bT a:=by have:0<=bT a:=L;omega
  have Z0:bT a<=4000000000000000000:=by
   exact xV
  have D:=ab Zw;clear Zw L;obtain⟨c,C⟩:∃c,U (bT a=c):=⟨_,I⟩;rw[C.o] at Z1 Z0;have ZN:(c==0)=ak:=by simpa using (show ¬c=0 from E)
  go_enter func171,ntmps171;go_wp2_with fail;refine(tJ _ _ _ _ _ (o.below (az w _)) t.o).mono ?_;rintro R f ⟨rfl,k⟩;replace k:=lb k;rw[C.o];obtain⟨r,s,G,H,j⟩:=j7 k;clear k;go_wp2_with fail;have Z8:U (∀b,b<a.length->(a.map (· /c)).take (b+1)=(a.map (· /c)).take b++[O a b/c]):= λ b i=>Bo a b c i
  go_loopw [8] (λ N wr=>∃(b:J) (p:ay),b<=d /\ N=M b /\ wr.heap[f.heap.size]? =Z (al #[M l,p] 29 (0,0)) /\ av wr (f.heap.size+1) p ((a.map (· /c)).take b) /\ ap f wr) (λ N _=>d-(intOf N).toNat)
  case atStart=>exact⟨0,_,E,I,heap_alloc_new f _,av.nil _ _,az f _⟩
  case round =>
   obtain⟨b,p,i,rfl,g,m,e⟩:=hrel;have z:=au j e;have X:=oR (i:=1) g;by_cases A:b<d
   ·exact xC
   ·have ZY:b=d:=E;have Y:(a.map (· /c)).take b=a.map (· /c):=jF (by rw[ec,q.o];omega);rw[Y] at m;clear Y ZY;obtain⟨Z4,Z3,x,rfl,ZZ⟩:=m.ints;have y:U (bh l a=if aI l (a.map (· /c)) then ⟨l,a.map (· /c),ae⟩ else bc.no):=by
     show bh l a=_;unfold bh;rw[aF D.o,C.o]
    have W:=oR (i:=0) g;have P:=ab g;clear g;have u:=ag e r;have v:=ag e s;have S:=aB e r G;have T:=aB e s H;go_wp2_with fail;refine(dA _ _ _ _ _ _ ZZ).mono ?_;rintro R ZL ⟨rfl,n⟩;replace u:=ag n u;replace v:=ag n v;replace S:=aB n (ag e r) S;replace T:=aB n (ag e s) T;have ZP:=ag n W;have ZO:=ag n X;have V:=au z n;have Z7:=m.below n;clear W X r s G H;cases B:aI l (a.map (· /c))
    ·go_wp2;refine aK (v:=aL #[am 0 aj 0 0,aw ak]) (by simp[aJ,results171,go_sem,u,v]) I ⟨?_,(V.setCell aZ _).setCell aZ _⟩;rw[y.o,B];exact b1.no _ _
    ·go_wp2;refine aK (v:=aL #[am l Z4 Z3 x,aw ae]) (by simp[aJ,results171,go_sem,u,v]) I ⟨?_,(V.setCell aZ _).setCell aZ _⟩;exact x8
theorem av.cellAt {g:af} {h e b i a:J} {c:ac} (f:av g h (aq e b i) c) (k:a<b):
  g.cell? (ad e a)=Z (M (O c a)) /\ g.frozen? (ad e a)=ak /\ c.length=b:=by
 have l:c.length=b:=by
  rcases f.2 with ⟨d,_⟩ | ⟨n,m,o,d,_⟩
  ·simp at d
  ·injection d with _ j _;exact j.symm
 subst l;exact⟨by rw[World.ownsRow.cellAt f a E];simp[O,k],World.ownsRow.frozenAt f a,I⟩
theorem av.store {d:af} {f a e g b:J} {i:ac} (h:av d f (aq a e g) i) (j:b<e) (c:F):
  av (d.setCell (ad a b) (M c)) f (aq a e g) (i.set b c) /\ d.grownBy (d.setCell (ad a b) (M c)) (Z a):=by
 obtain⟨_,_,k⟩:=h.cellAt j;subst k;have:=World.ownsRow.stored h b (M c);refine⟨?_,this.2⟩;simp only[av,List.map_set,iu];exact this.1
theorem cj {c b:af} {d e:ay} {f:TypeId} (a:J) (k:Below (c.alloc (al #[d,e] f)).heap.size (c.alloc (al #[d,e] f)) b) (l:c.heap.size=a):
  b.cell? (ad a 0)=Z d /\ b.cell? (ad a 1)=Z e /\ b.frozen? (ad a 0)=ak /\ b.frozen? (ad a 1)=ak:=by
 subst l;obtain⟨g,h,i,j,_⟩:=j7 k;exact⟨g,h,i,j⟩
theorem dC {f:af} {g a e h d:J} {k:ac} (i:av f g (aq a e h) k) (j:d<e) (b:F):
  ∃c,f.setCell (ad a d) (M b)=c /\ av c g (aq a e h) (k.set d b) /\ f.grownBy c (Z a):=⟨_,I,(i.store j b).1,(i.store j b).2⟩
theorem cW {e f:af} {a c b:J} {d:ay} (h:e.grownBy f (Z b)) (g: e.cell? ⟨a,c,aj⟩=Z d) (i:a≠b): f.cell? ⟨a,c,aj⟩=Z d:=h.cell g (by simpa using i)
theorem eQ {c e:af} {a b d:J} {j:ay} (h:c.grownBy e (Z d)) (f: c.cell? ⟨a,b,aj⟩=Z j) (i:a≠d) (g: c.frozen? ⟨a,b,aj⟩=ak): e.frozen? ⟨a,b,aj⟩=ak :=
 (World.frozen?_of_block (h.block a (fX c ⟨a,b,aj⟩ f) (by simpa using i))).trans g
theorem iD {e b f:af} {a d:J} (g:Below a e b) (i:a<=b.heap.size) (h:b.grownBy f (Z d)) (j:a<=d):Below a e f:=g.grown h i (λ k c=>by injection c with c;omega)
theorem av.len {i:af} {f c g:J} {e:aG} {d:ac} (h:av i f (aa e c g) d):d.length=c:=by
 rcases h.2 with ⟨a,m⟩ | ⟨k,j,l,a,_⟩
 ·injection a with _ b _;omega
 ·injection a with _ b _;exact b.symm
theorem eO {d e f:af} {c:Option J} (a:d.grownBy e c) (b:e.grownBy f c):d.grownBy f c :=
 ⟨b.os.trans a.os,b.tape.trans a.tape,b.output.trans a.output,ez a.size b.size,λ i g h=>(b.block i (cm g a.size) h).trans (a.block i g h)⟩
theorem hI (a:af) (b:Option J):a.grownBy a b:=⟨I,I,I,bL _,λ _ _ _=>rfl⟩
theorem iC {b c:af} (a:ap b c) (f:Option J):b.grownBy c f:=⟨a.os,a.tape,a.output,a.size,λ e d _=>a.block e d⟩
theorem cV {e a b:af} {B:J} {d:Option J} (f:Below B e a) (g:B<=a.heap.size) (h:a.grownBy b d) (i:∀c,d=Z c->B<=c):Below B e b:=f.grown h g i
theorem an.grown {j e:af} {c:aG} {h:J} {k:ac} {i:Option J} (d:an j c h k) (g:j.grownBy e i) (q:∀a b,c=Z ⟨a,b,aj⟩->i≠Z a):an e c h k:=by
 refine⟨d.len,d.cap,λ m=>?_⟩;obtain⟨a,b,f,n,o⟩:=d.cell m;exact⟨a,b,f,cm n g.size,λ r p=>g.cell (o r p) (λ l=>q a b f l.symm)⟩
theorem e6 {b:af} {m:bg bD} {rest:aU bD} {f:bD} {e:Act} {l:Exit->Act->af->Prop}
  (s:f.guard=aj) (k j:Operand) (w:f.op=Op.makeSlice 27 k j) (a:J) (i h:F) (v:e.eval k=M i) (r:e.eval j=M h) (q:i=(a:F)) (o:h=(a:F)) (C:a<=1000000000)
  (p:∀c,av c b.heap.size (aq b.heap.size a a) (bE a 0)->ap b c->b.heap.size<c.heap.size->wpList prog m l rest (e.put f.dst (aq b.heap.size a a)) c):
  wpList prog m l (f::rest) e b:=by
 obtain⟨A,t,x,y,z⟩:=info_parts ig;refine wpList_make_full b s k j 27 w b.heap.size 3 A (M 0) 1 underlying27 t x y .i64 .i64 i h a v r q o (by rw[z];omega) (by unfold maxLen;omega) aZ λ c g d=>p c ?_ ?_ ?_
 ·have n:(madeCells (ed cz 0).cells (a*1)).toList=(bE a (0:F)).map (ed .i64):=by
   exact sh
  simp only[av,List.length_replicate]
  rw[<- n];exact g
 ·exact⟨d.os,d.tape,d.output,d.size,λ B u=>d.block B u ar⟩
 ·exact(fs g _ I).2
theorem eF (b a:J):O (bE b 0) a=0:=by
 by_cases c:a<b
 ·rw[cK _ _ (by simpa using c)];simp
 ·rw[nG _ _ (by simp;omega)]
theorem Ab {h c d:af} {g:Option J} (a:ap h c) (b:c.grownBy d g):h.grownBy d g :=
 ⟨b.os.trans a.os,b.tape.trans a.tape,b.output.trans a.output,ez a.size b.size,λ f e i=>(b.block f (cm e a.size) i).trans (a.block f e)⟩
structure bb where
 num:F
 den:F
 ok:a8
def bb.no:bb:=⟨0,0,ak⟩
def gy (b a:F):F:=if a<0 then -(ee b a:F) else (ee b a:F)
def bv (b a:F):bb:=if bH (b.tdiv (gy b a)) (a.tdiv (gy b a)) then ⟨b.tdiv (gy b a),a.tdiv (gy b a),ae⟩ else bb.no
theorem qQ (a b:F) (c: -4000000000000000000<=a) (d:a<=4000000000000000000):IntKind.i64.wrap (a.tdiv b)=a.tdiv b:=by
 have e:(a.tdiv b).natAbs=a.natAbs/b.natAbs:=Int.natAbs_tdiv a b;have f:a.natAbs/b.natAbs<=a.natAbs:=Nat.div_le_self _ _;exact bV _ E
theorem tA (b a:F) (d:a≠0):1<=ee b a:=Nat.pos_of_ne_zero λ c=>d (Int.gcd_eq_zero_iff.1 c).2
theorem CN (b a:F) (c:a≠0):gy b a≠0:=by
 have:=tA b a c;unfold gy;split<;>omega
theorem C4 (b a:F) (c:a≠0) (d: -4000000000000000000<=a) (e:a<=4000000000000000000):(ee b a:F)<=4000000000000000000:=by
 have:ee b a<=a.natAbs:=Nat.le_of_dvd E (Nat.gcd_dvd_right _ _);omega
theorem mc (b a:F) (g:af) (v:a≠0) (B: -4000000000000000000<=b) (C:b<=4000000000000000000) (c: -4000000000000000000<=a) (w:a<=4000000000000000000):
  aC 156 #[M b,M a] g (aL #[ba #[M (bv b a).num,M (bv b a).den],aw (bv b a).ok]):=by
 have P:=tA b a v;have Q:=C4 b a v c w;have N:=CN b a v;have q:=qQ b (gy b a) B C;have r:=qQ a (gy b a) c w;obtain⟨o,j⟩:∃o:J,U (ee b a=o):=⟨_,I⟩;obtain⟨f,n⟩:∃f:F,U (gy b a=f):=⟨_,I⟩;rw[n.o] at q r N;rw[j.o] at P Q;obtain⟨d,s⟩:∃d:F,U (b.tdiv f=d):=⟨_,I⟩;obtain⟨e,t⟩:∃e:F,U (a.tdiv f=e):=⟨_,I⟩;have x:U (bv b a=if bH d e then ⟨d,e,ae⟩ else bb.no):=by show bv b a=_;unfold bv;rw[n.o,s.o,t.o]
 rw[s.o] at q;rw[t.o] at r;have G:U (IntKind.i64.wrap (b.tdiv f)=d):=by rw[U,s.o];exact q
 have H:U (IntKind.i64.wrap (a.tdiv f)=e):=by rw[U,t.o];exact r
 clear q r;have E:U (∀l,l<2-> -4000000000000000000<=O [b,a] l /\ O [b,a] l<=4000000000000000000):= λ l R=>by
  match l,R with
  | 0,_=>exact⟨B,C⟩
  | 1,_=>exact⟨c,w⟩
 by_cases D:a<0;all_goals
  first
   | (have u:U (IntKind.i64.wrap (-(o:F))=f):=by rw[U,<- n.o,<- j.o];unfold gy;rw[a7 D];exact bV _ (by rw[j.o];omega))
   | (have u:U ((o:F)=f):=by rw[U,<- n.o,<- j.o];unfold gy;rw[aF D])
  have V:=u.o;go_enter func156,ntmps156;go_wp2_with fail;refine(oE _ _ _ [b,a] _ (kH _ _ _ _ _ _ ar I I ar) E.o).mono ?_;rw[Cz,j.o];rintro K m ⟨rfl,i⟩;have Z7:=aS i g.heap.size 0 (M 0);have k:=aS i g.heap.size 1 (M 0);have y:=aB i (a:=(ad g.heap.size 0)) (v:=M 0) ar ar;have z:=aB i (a:=(ad g.heap.size 1)) (v:=M 0) ar ar;have L:ap g m:=dz i;clear i;go_wp2;have Z8:g.heap.size<m.heap.size:=b6 Z7;clear V;first | rw[u.o] | skip
  have S:=G.o;have T:=H.o;go_region_held3 (λ X=>True) (trivial) (fail);all_goals
   clear S T;go_wp2_with fail;refine(l9 _ _ _).mono ?_;rintro K W ⟨rfl,p⟩;have Z6:=aS p m.heap.size 0 (M d);have Z9:=aS p m.heap.size 1 (M e);have c:ap m W:=dz p;replace y:=aB c Z7 y;replace z:=aB c k z;replace Z7:=ag c Z7;replace k:=ag c k;have Y:=au L c;clear p c;cases A:bH d e
   ·go_wp2;refine aK (v:=bz 0 0 ak) (by simp[aJ,results156,go_sem,Z7,k]) I ⟨by rw[x.o,A];rfl,?_⟩;exact bB
   ·go_wp2;refine aK (v:=bz d e ae) (by simp[aJ,results156,go_sem,Z7,k]) I ⟨by rw[x.o,A];rfl,?_⟩;exact bB
theorem oD (b a:F) (c:af) (x:a≠0) (y: -4000000000000000000<=b) (z:b<=4000000000000000000) (d: -4000000000000000000<=a) (p:a<=4000000000000000000):
  aC 77 #[M b,M a] c (aL #[ba #[M (bv b a).num,M (bv b a).den],aw (bv b a).ok]):=by
 have N:=tA b a x;have P:=C4 b a x d p;have L:=CN b a x;have q:=qQ b (gy b a) y z;have r:=qQ a (gy b a) d p;obtain⟨n,k⟩:∃n:J,U (ee b a=n):=⟨_,I⟩;obtain⟨g,m⟩:∃g:F,U (gy b a=g):=⟨_,I⟩;rw[m.o] at q r L;rw[k.o] at N P;obtain⟨e,s⟩:∃e:F,U (b.tdiv g=e):=⟨_,I⟩;obtain⟨f,t⟩:∃f:F,U (a.tdiv g=f):=⟨_,I⟩;have A:U (bv b a=if bH e f then ⟨e,f,ae⟩ else bb.no):=by show bv b a=_;unfold bv;rw[m.o,s.o,t.o]
 rw[s.o] at q;rw[t.o] at r;have G:U (IntKind.i64.wrap (b.tdiv g)=e):=by rw[U,s.o];exact q
 have H:U (IntKind.i64.wrap (a.tdiv g)=f):=by rw[U,t.o];exact r
 clear q r;have X:U (∀l,l<2-> -4000000000000000000<=O [b,a] l /\ O [b,a] l<=4000000000000000000):= λ l Q=>by
  match l,Q with
  | 0,_=>exact⟨y,z⟩
  | 1,_=>exact⟨d,p⟩
 by_cases E:a<0;all_goals
  first
   | (have u:U (IntKind.i64.wrap (-(n:F))=g):=by rw[U,<- m.o,<- k.o];unfold gy;rw[a7 E];exact bV _ (by rw[k.o];omega))
   | (have u:U ((n:F)=g):=by rw[U,<- m.o,<- k.o];unfold gy;rw[aF E])
  have T:=u.o;go_enter func77,ntmps77;go_wp2_with (go_at_call 181;refine(tz _ _ _ ⟨y,z⟩ ⟨d,p⟩).mono ?_;rw[k.o];rintro K i ⟨rfl,rfl⟩);have C:Below c.heap.size c (c.alloc (al #[M 0,M 0] 55)):=az _ _;have Z6:(c.alloc (al #[M 0,M 0] 55)).cell? (ad c.heap.size 0)=Z (M 0):=ar;have j:(c.alloc (al #[M 0,M 0] 55)).cell? (ad c.heap.size 1)=Z (M 0):=ar;have v:(c.alloc (al #[M 0,M 0] 55)).frozen? (ad c.heap.size 0)=ak:=ar;have w:(c.alloc (al #[M 0,M 0] 55)).frozen? (ad c.heap.size 1)=ak:=ar;obtain⟨i,B⟩:∃i,U (c.alloc (al #[M 0,M 0] 55)=i):=⟨_,I⟩;rw[B.o] at C Z6 j v w;rw[B.o];have Z7:c.heap.size<i.heap.size:=b6 Z6;clear T;first | rw[u.o] | skip
  have R:=G.o;have S:=H.o;go_region_held3 (λ W=>True) (trivial) (fail);all_goals
   clear R S;go_wp2_with fail;refine(oz _ _ _).mono ?_;rintro K V ⟨rfl,o⟩;have Z9:=aS o i.heap.size 0 (M e);have Z8:=aS o i.heap.size 1 (M f);have d:ap i V:=dz o;replace v:=aB d Z6 v;replace w:=aB d j w;replace Z6:=ag d Z6;replace j:=ag d j;have Y:=au C d;clear o d;cases D:bH e f
   ·go_wp2;refine aK (v:=bz 0 0 ak) (by simp[aJ,results77,go_sem,Z6,j]) I ⟨by rw[A.o,D];rfl,?_⟩;exact bB
   ·go_wp2;refine aK (v:=bz e f ae) (by simp[aJ,results77,go_sem,Z6,j]) I ⟨by rw[A.o,D];rfl,?_⟩;exact bB
theorem av.apart {g c:af} {e:J} {b f:ay} {h:ac} (j:av g e b h) (k:g.grownBy c f.ownBlock) (l:∀a,b.ownBlock=Z a->∀d,f.ownBlock=Z d->a≠d):av c e b h:=by
 refine j.grown k ?_;cases m:b.ownBlock with
 | none=>exact bj I
 | some a=>exact aP λ i=>l a m a i.symm I
theorem jT {ι:Type} {id:J} {i:bg bD} {c:Act} {j:af} {g:Exit->Act->af->Prop} (f:Act->ι->Act) (h:ι->af->Prop)
  (d:(Code.region id i ae).wp prog (λ n e b=>match n with | .normal=>∃a,e=f c a /\ h a b | _=>False) c j)
  (l:∀a b,h a b->g .normal (f c a) b):(Code.region id i ae).wp prog g c j :=
 Code.wp_mono (λ k e b d=>by
  cases k with
  | normal=>obtain⟨a,rfl,m⟩:=d;exact l a b m
  | _=>exact d.elim) d
theorem av.setOther {e:af} {c:J} {b:ay} {f:ac} (h:av e c b f) {a:Addr} (i:b.ownBlock≠Z a.block) (d:ay):av (e.setCell a d) c b f :=
 ownsRow_setCell_other h (λ g=>i g) d
theorem I7 (a:af):a.drew.heap.size=a.heap.size:=rfl
theorem e8 {a b:af} (c:Below a.drew.heap.size a.drew b):ap a b:=au (bI a) c
end Go.Proofs.YtkjnhlpccgjfhaaGreatDoor
