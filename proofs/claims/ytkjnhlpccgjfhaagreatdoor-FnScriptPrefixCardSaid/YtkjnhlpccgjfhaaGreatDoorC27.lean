/- A part of the proof: lemmas (my texts, shortened by a program of mine). -/
import Derived.Test.YtkjnhlpccgjfhaaGreatDoorC25
set_option linter.all false
set_option maxRecDepth 100000
set_option maxHeartbeats 4000000
namespace Go.Proofs.YtkjnhlpccgjfhaaGreatDoor
open Go.RowKit
open Go.Proofs.Tryz
open Bool renaming and_eq_true->b9,false->ak,true->ae
open _root_.ByteArray renaming mk->aN,size->eX,size_append->cZ
open Go renaming Calls->aY,World->af,bodyPost_ret->aK,results->aJ,wpQuiet_nil->dn
open Go.BinOp renaming and->fY,andNot->hZ
open Go.Ending renaming returned->aV
open Go.IntKind renaming i64->cz
open Go.Lib renaming index->gA
open Go.Obj renaming cells->al
open Go.Value renaming agg->ba,bool->aw,slice->aa,string->aE,tuple->aL
open Int renaming toNat_natCast->cI
open List renaming drop_eq_getElem_cons->mH,getLast?_append->vb,length_append->dm,length_cons->jG,map_append->g7,range->cN,take_add_one->kO,take_of_length_le->jF
open Nat renaming lt_or_ge->hX
open Option renaming none->aj,some->Z
open Option.some renaming inj->iO
open _root_ renaming ByteArray->ch,Int->F,List->aU,Nat->J,UInt8->b3,absurd->bC,beq_eq_false_iff_ne->dx,beq_iff_eq->cR,if_neg->aF,if_pos->a7,rfl->I
variable {p q:Prop}
theorem Le:∀a b:Fin 16,(bits fY cz ((a.val:J):F) ((b.val:J):F)==0)= !bU a.val b.val:=cS
theorem L4:∀a b:Fin 16,(bits hZ cz ((a.val:J):F) ((b.val:J):F)==0)=fe a.val b.val:=cS
theorem ng (p:F) (c:J) (i:aG) (b n:J) (f:ac) (m:af) (v:an m i b f) (t:c<16) (C:b<=16) (j:∀a,a<b->0<=O f a /\ O f a<=1000000):
  aC 85 #[am p i b n,M c] m (M (a9 (bm (bU c)) f b)):=by
 have r:=ab j;have q:=ab (i3 (bU c) f b j);clear j;have e:=az m (al #[M p,aa i b n] 29);go_enter func85,ntmps85;go_wp2;go_loop [5,6] (λ w l=>∃a:J,a<=b /\ l=M a /\ w=M (a9 (bm (bU c)) f a)) (λ _ l=>b-(intOf l).toNat)
 case atStart=>exact⟨0,E,I,I⟩
 case round =>
  obtain⟨a,u,rfl,rfl⟩:=hrel;by_cases o:a<b
  ·obtain⟨y,H,rfl,z,x,A⟩:=v.at e o;have D:=r.o a o;have G:=q.o a u;have B:(a:F)<=16:=E;have g:=Le ⟨c,t⟩ ⟨a,E⟩;simp only at g;have k:U (a9 (bm (bU c)) f (a+1)=a9 (bm (bU c)) f a+(if bU c a then 1 else 0)*O f a):=rfl;cases d:bU c a
   ·have K:(bits fY cz (c:F) (a:F)==0)=ae:=by rw[g,d];rfl
    have s:(bits fY cz (c:F) (a:F) != 0)=ak:=by unfold bne;rw[K];rfl
    clear g K;go_wp2;exact kU
   ·have K:(bits fY cz (c:F) (a:F)==0)=ak:=by rw[g,d];rfl
    have s:(bits fY cz (c:F) (a:F) != 0)=ae:=by unfold bne;rw[K];rfl
    clear g K;go_wp2;exact kU
  ·exact oa
theorem HT (o:F) (c:J) (H:aG) (b m:J) (f:ac) (l:af) (u:an l H b f) (s:c<16) (B:b<=16) (i:∀a,a<b->0<=O f a /\ O f a<=1000000):
  aC 97 #[am o H b m,M c] l (M (a9 (bm (fe c)) f b)):=by
 have q:=ab i;have p:=ab (i3 (fe c) f b i);clear i;have e:=az l (al #[M o,aa H b m] 29);go_enter func97,ntmps97;go_wp2;go_loop [5,6] (λ v j=>∃a:J,a<=b /\ j=M a /\ v=M (a9 (bm (fe c)) f a)) (λ _ j=>b-(intOf j).toNat)
 case atStart=>exact⟨0,E,I,I⟩
 case round =>
  obtain⟨a,t,rfl,rfl⟩:=hrel;by_cases n:a<b
  ·obtain⟨x,G,rfl,y,w,z⟩:=u.at e n;have C:=q.o a n;have D:=p.o a t;have A:(a:F)<=16:=E;have g:=L4 ⟨c,s⟩ ⟨a,E⟩;simp only at g;have k:U (a9 (bm (fe c)) f (a+1)=a9 (bm (fe c)) f a+(if fe c a then 1 else 0)*O f a):=rfl;cases d:fe c a
   ·have r:(bits hZ cz (c:F) (a:F)==0)=ak:=by rw[g];exact d
    clear g;go_wp2;exact kU
   ·have r:(bits hZ cz (c:F) (a:F)==0)=ae:=by rw[g];exact d
    clear g;go_wp2;exact kU
  ·exact oa
theorem Eb (d:F) (b:J) (e:aG) (s l:J) (a:ac) (V:af) (f:an V e s a) (q:(aI d a&&b4 d (b:F))=ae):
  aC 74 #[am d e s l,M (b:F)] V (M (a9 (bm (bU b)) a a.length)):=by
 have w:=q;rw[b9] at w;obtain⟨p,x⟩:=w;obtain⟨r,N,t,y,_⟩:=bt p;have G:=b8 r;have v:bi 0 ((aH d:F)-1) (b:F)=ae:=by simpa [b4,r] using x
 have o:=lv (bU b) p;obtain rfl:s=a.length:=f.len.symm;have H:b<a.length:=by have:=bM.1 v;omega
 obtain⟨c,n⟩:∃c,a.length=c:=⟨_,I⟩;rw[n] at f t H o ⊢;have A:U (∀g,g<c->0<=O a g /\ O a g<=1000000):=by show ∀g,g<c->_;rw[<- n];exact y
 have K:b<16:=E;obtain⟨k,m⟩:∃k,a9 (bm (bU b)) a c=k:=⟨_,I⟩;rw[m] at o ⊢;have z:U (∀i,an i e c a->aC 85 #[am d e c l,M (b:F)] i (M k)):= λ i D=>by rw[<- m];exact ng d b _ _ _ a i D K t A.o
 have B:=ab q;clear N y m n q p x r v G o;go_enter func74,ntmps74;go_wp2_with fail;refine(i1 d b _ _ _ a _ (f.below aD)).mono ?_;rw[B.o];rintro C Q ⟨rfl,j⟩;have R:=aS j V.heap.size 0 (M d);have S:=aS j V.heap.size 1 (aa e c l);have u:ap V Q:=bJ j;have P:=f.below u;clear j f;go_wp2_with fail;refine(z.o _ P).mono ?_;rintro C T ⟨rfl,L⟩;go_wp2;go_ret;exact⟨I,au u L⟩
theorem Ec (a b:F) (e:aG) (g n:J) (d:ac) (c:af) (k:an c e g d) (j:(aI a d&&b4 a b)=ak):
  aC 74 #[am a e g n,M b] c (M (-1)):=by
 go_enter func74,ntmps74;go_wp2_with fail;refine(i1 a b _ _ _ d _ (k.below aD)).mono ?_;rw[j];rintro m l ⟨rfl,f⟩;have i:ap c l:=bJ f;clear f;go_wp2;go_ret;exact⟨I,i⟩
def fp (c:F) (a:ac) (b:F):bb:=if aI c a&&b4 c b then bv (a9 (bm (bU b.toNat)) a a.length) (aW a) else bb.no
theorem CZ {a:F} {c:ac} {b:F} (d:(aI a c&&b4 a b)=ak):fp a c b=bb.no:=by unfold fp;rw[d];rfl
theorem Cq {c:F} {a:ac} {b:J} (d:(aI c a&&b4 c (b:F))=ae):fp c a (b:F)=bv (a9 (bm (bU b)) a a.length) (aW a):=by unfold fp;rw[d,cI];rfl
theorem DY (g b:F) (f:aG) (i l:J) (a:ac) (d:af) (L:an d f i a):
  aC 27 #[am g f i l,M b] d (aL #[ba #[M (fp g a b).num,M (fp g a b).den],aw (fp g a b).ok]):=by
 obtain⟨u,q⟩:∃u:F,U ((∀c,an c f i a->aC 74 #[am g f i l,M b] c (M u)) /\ (∀c,an c f i a->aC 72 #[am g f i l,M u] c (aL #[ba #[M (fp g a b).num,M (fp g a b).den],aw (fp g a b).ok]))):=by
  cases n:aI g a&&b4 g b
  ·refine⟨-1,ab ⟨λ c k=>Ec g b _ _ _ a c k n,λ c k=>?_⟩⟩;rw[CZ n];exact CO g _ _ _ c
  ·have G:=n;rw[b9] at G;obtain⟨A,w⟩:=G;obtain⟨o,_⟩:=bt A;refine mU ?_;intro v;obtain⟨t,rfl⟩:∃t:J,b=(t:F):=⟨b.toNat,by have:=bM.1 v;omega⟩;have K:=lv (bU t) A;refine⟨_,ab ⟨λ c k=>Eb g t _ _ _ a c k n,λ c k=>?_⟩⟩;rw[Cq n];exact Co g _ _ _ _ a c k A K.1 E
 obtain⟨z,D⟩:∃P,fp g a b=P:=⟨_,I⟩;rw[D] at q ⊢;clear D;have B:=ab q.o.1;have C:=ab q.o.2;have p:=L.below (w':=(d.alloc (al #[M g,aa f i l] 29)).alloc (al #[M 0,M 0] 55)) aD;clear q;go_enter func27,ntmps27;go_wp2_with fail;obtain⟨j,e⟩:∃j,(d.alloc (al #[M g,aa f i l] 29)).alloc (al #[M 0,M 0] 55)=j:=⟨_,I⟩;have H:ap d j:=by rw[<- e];exact aD
 have N: j.cell? (ad d.heap.size 0)=Z (M g):=by rw[<- e];simp
 have O: j.cell? (ad d.heap.size 1)=Z (aa f i l):=by rw[<- e];simp
 have r: j.cell? (ad (d.heap.size+1) 0)=Z (M 0):=by rw[<- e];simp
 have s: j.cell? (ad (d.heap.size+1) 1)=Z (M 0):=by rw[<- e];simp
 have x: j.frozen? (ad (d.heap.size+1) 0)=ak:=by rw[<- e];simp
 have y: j.frozen? (ad (d.heap.size+1) 1)=ak:=by rw[<- e];simp
 rw[e] at p;rw[e];clear e;refine ei 7 ah ah (λ _ _ _ _ _ k=>k) ?_;simp only[List.take_succ_cons,List.take_zero,List.drop_succ_cons,List.drop_zero];repeat (first | go_big_quiet_step ((first | (go_at_call 74;(with_reducible exact aQ (B.o _ (p.below (aM _ _))))) | (go_at_call 72;(with_reducible exact aQ (C.o _ (p.below (aM _ _))))))) | quiet_step ((first | (go_at_call 74;(with_reducible exact aQ (B.o _ (p.below (aM _ _))))) | (go_at_call 72;(with_reducible exact aQ (C.o _ (p.below (aM _ _))))))))
 refine dn ?_;refine dg ?_;intro R m;replace x:=aB m r x;replace y:=aB m s y;replace r:=ag m r;replace s:=ag m s;have Q:=au H m;clear m N O;go_wp2;refine aK (v:=bz z.num z.den z.ok) (by simp[aJ,results27,go_sem,r,s,x,y]) I ⟨?_,?_⟩
 ·rfl
 ·exact aD
theorem la (b:J) (p:af) (s:b<16):
  aC 23 #[M b] p (aE (ai (cd b))):=by
 have r:U (∀c,aY prog 65 #[M (b:F)] c λ g k=>g=aV (aw ae) /\ c=k):= λ c=>by
  have f:=JX (b:F) c;rw[show bi 0 15 (b:F)=ae from bM.2 E] at f;exact f
 have o:U (∀(a:J) c,a<4->aY prog 66 #[M (b:F),M (a:F)] c λ g k=>g=aV (aw (bZ b a)) /\ c=k):= λ a c t=>by
  have f:=lk b (a:F) c E E E;rw[cI] at f;exact f
 go_enter func23,ntmps23;go_wp2_with (go_at_call 65;refine(r.o _).mono ?_;rintro g c ⟨rfl,rfl⟩);go_loopw [3,4] (λ x m wr=>ap p wr /\ ∃a:J,a<=4 /\ m=M a /\ x=aE (ai (gr b a))) (λ _ m _=>4-(intOf m).toNat)
 case atStart=>exact⟨Below.refl _ _,0,E,I,I⟩
 case round =>
  obtain⟨e,a,t,rfl,rfl⟩:=hrel;by_cases l:a<4
  ·have z:(0:F)<=(a:F):=E;have A:(a:F)<4:=E;have u:=Bu ⟨b,s⟩ ⟨a,E⟩;simp only at u;have v:=Dt a l;have w:¬9223372036854775807<(ai (gr b a)).size +(ai [mF a]).size:=by rw[bs,bs];simp;omega
   have d:=ab (A3 b a);cases i:bZ b a
   ·rw[i] at d;clear w v;go_wp2_with (go_at_call 66;refine(o.o a _ l).mono ?_;rw[i];rintro g c ⟨rfl,rfl⟩);exact yi
   ·rw[i] at d;have q:U (ai (gr b (a+1))=ai (gr b a)++ai [mF a]):=by rw[U,d.o,a7 rfl,dd]
    clear d;go_wp2_with (go_at_call 66;refine(o.o a _ l).mono ?_;rw[i];rintro g c ⟨rfl,rfl⟩);exact wU
  ·exact vS
def eH (b:ax):Option J:=(cN 16).find? λ a=>cd a==b
theorem uu {d:ax} {a:J} (c:a<16) (b:cd a=d):eH d=Z a:=by
 unfold eH;rw[List.find?_range_eq_some];refine⟨by rw[cR];exact b,by simpa using c,λ f g=>?_⟩;simp only[Bool.not_eq_true',dx,ne_eq];intro e;have:=Cm ⟨f,E⟩ ⟨a,c⟩ (e.trans b.symm);simp only at this;omega
theorem B3 {b:ax} (c:∀a,a<16->cd a≠b):eH b=aj:=by
 unfold eH;rw[List.find?_range_eq_none];intro e d;simp only[Bool.not_eq_true',dx,ne_eq];exact c e (by simpa using d)
theorem tI (d:ax) (l:af):
  aC 51 #[aE (ai d)] l (aL #[M (((eH d).getD 0:J):F),aw (eH d).isSome]):=by
 go_enter func51,ntmps51;go_wp2;go_loopw [4,5] (λ w k wr=>ap l wr /\ ∃a:J,a<=16 /\ k=M a /\ U (∀b,b<a->cd b≠d)) (λ _ k _=>16-(intOf k).toNat)
 case atStart=>exact⟨Below.refl _ _,0,E,I,λ b p=>E⟩
 case round =>
  obtain⟨x,a,r,rfl,f⟩:=hrel;have s:(0:F)<=(a:F):=E;by_cases j:a<16
  ·have t:(a:F)<16:=E;by_cases c:cd a=d
   ·have g:=ab (uu j c);have v:((ai (cd a)).toList==(ai d).toList)=ae:=by rw[c];exact beq_self_eq_true _
    clear c;go_wp2_with fail;refine(mf a _ j).mono ?_;rintro o q ⟨rfl,e⟩;have i:=au x e;clear e;go_wp2;refine aK (v:=aL #[M (a:F),aw ae]) (by simp[aJ,results51,go_sem]) I ⟨by rw[g.o];rfl,i⟩
   ·have n:U (∀b,b<a+1->cd b≠d):= λ b p=>by
     exact wk
    have u:=j5 c
    clear c
    go_wp2_with fail
    refine(mf a _ j).mono ?_;rintro o q ⟨rfl,e⟩
    have i:=au x e
    clear e
    go_wp2
    go_roundw
    case rel=>exact⟨i,a+1,E,by go_num,n⟩
    case measure=>simp[intOf];omega
  ·obtain rfl:a=16:=E;have g:=ab (B3 f.o);go_wp2;refine aK (v:=aL #[M 0,aw ak]) (by simp[aJ,results51,go_sem]) I ⟨by rw[g.o];rfl,x⟩
theorem tq (d:ax) (l:af):
  aC 41 #[aE (ai d)] l (aL #[M (((eH d).getD 0:J):F),aw (eH d).isSome]):=by
 go_enter func41,ntmps41;go_wp2;go_loopw [4] (λ k wr=>ap l wr /\ ∃a:J,a<=16 /\ k=M a /\ U (∀b,b<a->cd b≠d)) (λ k _=>16-(intOf k).toNat)
 case atStart=>exact⟨Below.refl _ _,0,E,I,λ b p=>E⟩
 case round =>
  obtain⟨w,a,r,rfl,f⟩:=hrel;have s:(0:F)<=(a:F):=E;by_cases j:a<16
  ·have t:(a:F)<=15:=E;by_cases c:cd a=d
   ·have g:=ab (uu j c);have v:((ai (cd a)).toList==(ai d).toList)=ae:=by rw[c];exact beq_self_eq_true _
    clear c;go_wp2_with fail;refine(la a _ j).mono ?_;rintro o q ⟨rfl,e⟩;have i:=au w e;clear e;go_wp2;refine aK (v:=aL #[M (a:F),aw ae]) (by simp[aJ,results41,go_sem]) I ⟨by rw[g.o];rfl,i⟩
   ·have n:U (∀b,b<a+1->cd b≠d):= λ b p=>by
     exact wk
    have u:=j5 c
    clear c
    go_wp2_with fail
    refine(la a _ j).mono ?_;rintro o q ⟨rfl,e⟩
    have i:=au w e
    clear e
    go_wp2
    go_roundw
    case rel=>exact⟨i,a+1,E,by go_num,n⟩
    case measure=>simp[intOf];omega
  ·obtain rfl:a=16:=E;have g:=ab (B3 f.o);go_wp2;refine aK (v:=aL #[M 0,aw ak]) (by simp[aJ,results41,go_sem]) I ⟨by rw[g.o];rfl,w⟩
theorem L5 {d:b3} {c:ax} {b a:J} (h:c[b]? =Z d) (j:a<=b) (i:d∉(c.drop a).take (b-a)):bo d (c.drop a)=(c.drop a).take (b-a)::bo d (c.drop (b+1)):=by
 obtain⟨e,f⟩:=List.getElem?_eq_some_iff.1 h;have g:c.drop a=(c.drop a).take (b-a)++d::c.drop (b+1):=by
  exact wK
 conv=>lhs;rw[g]
 exact j2 d _ _ i
theorem L6 {c:b3} {b:ax} {a:J} (d:c∉(b.drop a).take (b.length-a)):bo c (b.drop a)=[(b.drop a).take (b.length-a)]:=by
 have e:(b.drop a).take (b.length-a)=b.drop a:=jF ar;rw[e] at d ⊢;exact ky c _ d
theorem L7 {d:b3} {e:ax} {b a:J} {i:b3} (g:e[b]? =Z i) (f:i≠d) (j:a<=b) (k:d∉(e.drop a).take (b-a)):d∉(e.drop a).take (b+1-a):=by
 exact ym
theorem oG (a:ch) (i:b3) (q:F) (C:(i.toNat:F)=q) (Y:af) (V:a.size<=2000000):
  aY prog 9 #[aE a,.int .u8 q] Y λ m p=>∃k d j b,m=aV (aq k d j) /\ cb p Y.heap.size (aq k d j) b /\ b.map (·.data.toList)=bo i a.data.toList /\ ap Y p:=by
 have A:=ab C;clear C;go_enter func9,ntmps9;go_wp2;obtain⟨W,y⟩:∃P:af,P=Y.alloc (al #[] 9):=⟨_,I⟩;rw[<- y];go_loopw [5,6,7] (λ Q L z wr=>ap Y wr /\ ∃(c f d:J) (b:aU ch),z=M c /\ L=M f /\ (∃k j,Q=aq k d j /\ cb wr Y.heap.size (aq k d j) b) /\ d<=c /\ b.length=d /\
   U ((c<=a.size /\ f<=c /\ b.map (·.data.toList)++bo i (a.data.toList.drop f)=bo i a.data.toList /\ i∉(a.data.toList.drop f).take (c-f)) \/ (c=a.size+1 /\ b.map (·.data.toList)=bo i a.data.toList))) (λ _ _ z _=>a.size+1-(intOf z).toNat)
 case atStart=>exact⟨by rw[y];exact az Y _,0,0,0,[],I,I,⟨_,_,I,by rw[y];exact cb.lit Y⟩,E,I,Or.inl ⟨E,E,I,ar⟩⟩
 case round =>
  obtain⟨g,c,f,d,b,rfl,rfl,⟨k,j,rfl,e⟩,T,o,l⟩:=hrel;have B:=g.size;by_cases S:c<=a.size
  ·obtain⟨_,D,hcut,H⟩:=l.o.resolve_right E;have u:=ab hcut;have v:=ab H;clear hcut H l;by_cases O:c=a.size
   ·subst O;go_wp2_with (at_builtin;refine oA I _ _ I Y.heap.size _ _ d o a6 (e.below (az wr _)) _ _ (a.extract f a.size) a6 ar E (by simp;omega) ?_;intro s r p t x);go_roundw
    case rel=>exact⟨cV (g.alloc B _) (by simp;omega) x (λ w m=>(e.block w m).1),a.size+1,a.size+1,d+1,b++[a.extract f a.size],by go_num,by go_num,⟨s,r,I,t⟩,E,by simp[o],Or.inr ⟨I,by rw[g7,<- u.o,L6 (by rw[eE];exact v.o),eE,<- nt];rfl⟩⟩
    case measure=>first | (simp[intOf];done) | (simp[intOf];omega)
   ·have G:c<a.size:=E;by_cases n:a[c]=i
    ·have N:((a[c].toNat:F)==q)=ae:=by rw[n,A.o];exact beq_self_eq_true _
     have K:=ab n;clear n;go_wp2_with (at_builtin;refine oA I _ _ I Y.heap.size _ _ d o a6 (e.below (az wr _)) _ _ (a.extract f c) a6 ar E (by simp;omega) ?_;intro s r p t x);go_roundw
     case rel=>exact⟨cV (g.alloc B _) (by simp;omega) x (λ w m=>(e.block w m).1),c+1,c+1,d+1,b++[a.extract f c],by go_num,by go_num,⟨s,r,I,t⟩,E,by simp[o],Or.inl ⟨E,E,by rw[g7,<- u.o,L5 (by rw[jq a c G,K.o]) D v.o,<- nt];simp,ar⟩⟩
     case measure=>first | (simp[intOf];done) | (simp[intOf];omega)
    ·have N:((a[c].toNat:F)==q)=ak:=by rw[<- A.o,dx];intro m;exact n (UInt8.toNat_inj.1 E)
     go_wp2;go_roundw
     case rel=>exact⟨g,c+1,f,d,b,by go_num,I,⟨k,j,I,e⟩,E,o,Or.inl ⟨E,E,u.o,L7 (jq a c G) n D v.o⟩⟩
     case measure=>first | (simp[intOf];done) | (simp[intOf];omega)
  ·exact wE
theorem L8 {c:b3} {a:ax} {b:J} (e:a[b]? =Z c) (h:c∉a.take b):gA a [c]=b:=by
 obtain⟨f,g⟩:=List.getElem?_eq_some_iff.1 e;have d:a=a.take b++c::a.drop (b+1):=by
  conv=>lhs;rw[<- List.take_append_drop b a,mH f,g]
 conv=>lhs;rw[d]
 rw[q3 c _ _ h,List.length_take,Nat.min_eq_left E]
theorem Lg {b e:b3} {d:ax} {c:J} (f:d[c]? =Z e) (g:e≠b) (h:b∉d.take c):b∉d.take (c+1):=by
 rw[kO,f];intro a;rcases List.mem_append.1 a with a | a
 ·exact h a
 ·simp at a;exact g a.symm
theorem AU (a:ch) (c:b3) (f:F) (k:(c.toNat:F)=f) (m:af) (r:a.size<=2000000):
  aY prog 10 #[aE a,.int .u8 f] m λ j n=>j=aV (M (gA a.data.toList [c])) /\ m=n:=by
 have i:=ab k;clear k;go_enter func10,ntmps10;go_wp2;go_loop [5] (λ s=>∃b:J,b<=a.size /\ s=M b /\ U (c∉a.data.toList.take b)) (λ s=>a.size-(intOf s).toNat)
 case atStart=>exact⟨0,E,I,by simp[U]⟩
 case round =>
  obtain⟨b,q,rfl,g⟩:=hrel;by_cases l:b<a.size
  ·by_cases e:a[b]=c
   ·have p:((a[b].toNat:F)==f)=ae:=by rw[e,i.o];exact beq_self_eq_true _
    have d:=ab (L8 (c:=c) (by rw[jq a b l,e]) g.o);clear e;exact sa
   ·have p:((a[b].toNat:F)==f)=ak:=by rw[<- i.o,dx];intro j;exact e (UInt8.toNat_inj.1 E)
    have o:=ab (Lg (jq a b l) e g.o);clear e;go_wp2;go_round
    case rel=>exact⟨b+1,E,by go_num,o⟩
    case measure=>simp[intOf];omega
  ·obtain rfl:b=a.size:=E;have d:=ab (qJ c a.data.toList (by have:=g.o;rw[jF (by rw[eE];omega)] at this;exact this));exact sa
theorem DZ (b c:F) (a:af) (f:bH b c=ae):
  aC 71 #[ba #[M b,M c]] a (aE (ai (bG b c))):=by
 obtain⟨n,o,B,u⟩:=oN f;have j:U (∀g d,-1000000000<=g->g<=1000000000->aC 64 #[M g] d (aE (ai (Lib.itoa g)))):= λ g d C e=>qt g E E d
 have t:U (∀d,aC 179 #[ba #[M b,M c]] d (aw ae)):= λ d=>by rw[<- f];exact oz b c d
 have q:=ld n o;have r:=ld (x:=c) E u;have y:¬9223372036854775807<(ai (Lib.itoa b)).size +(aN #[47]).size:=by rw[bs];simp[eX];omega
 have z:¬9223372036854775807<(ai (Lib.itoa b)++aN #[47]).size +(ai (Lib.itoa c)).size:=by rw[cZ,bs,bs];simp[eX];omega
 have s:U (∀d,aC 180 #[ba #[M b,M c]] d (aE (ai (bG b c)))):=by
  intro a;by_cases e:c=1
  ·have m:U (bG b c=Lib.itoa b):=by rw[U];unfold bG;rw[f,a7 rfl,a7 e]
   rw[m.o];subst e;clear f y z q r;go_enter func180,ntmps180;go_wp2_with fail;refine(j.o b _ n o).mono ?_;rintro p k ⟨rfl,i⟩;refine ic ?_;intro l;exact kV
  ·have m:U (ai (Lib.itoa b)++aN #[47]++ai (Lib.itoa c)=ai (bG b c)):=by
    rw[U,show aN #[47]=ai [47] from I,dd,dd];unfold bG;rw[f,a7 rfl,aF e];simp
   have D:(c==1)=ak:=by rw[dx];exact e
   clear f e q r
   go_enter func180,ntmps180
   go_wp2
   refine gj ah ah ?_
   repeat (first | go_big_quiet_step ((go_at_call 64;first | (with_reducible exact aQ (j.o b _ E E)) | (with_reducible exact aQ (j.o c _ E E)))) | quiet_step ((go_at_call 64;first | (with_reducible exact aQ (j.o b _ E E)) | (with_reducible exact aQ (j.o c _ E E)))))
   refine dn ?_
   refine dg ?_
   intro A x
   have v:ap a A:=bJ x
   go_wp2
   go_ret
   exact⟨by rw[<- m.o];rfl,v⟩
 go_enter func71,ntmps71;go_wp2_with fail;refine(t.o _).mono ?_;rintro p k ⟨rfl,i⟩;have G:=aS i a.heap.size 0 (M b);have H:=aS i a.heap.size 1 (M c);have l:ap a k:=bJ i;clear i;go_wp2_with fail;refine(s.o _).mono ?_;rintro p J ⟨rfl,w⟩;go_wp2;go_ret;exact⟨I,au l w⟩
def dG (c:F) (a:ac) (b:J):ax:=Lib.itoa c++58::Lib.join ((bQ a b).map (di a)) [44]
theorem L9 {b:F} {a:ac} (c:aI b a=ae):dG b a a.length=bd b a:=by unfold bd dG dM;rw[c];rfl
theorem B4 {s:F} {b:ac} {a:J} (c:O b a=0):dG s b (a+1)=dG s b a:=by unfold dG;rw[hH,a7 c]
theorem B5 {s:F} {b:ac} {a:J} (c:O b a≠0):dG s b (a+1)=dG s b a++(if bQ b a=[] then [] else [44])++di b (a:F):=by
 unfold dG;rw[hH,aF c,g7];cases d:bQ b a with
 | nil=>simp[Lib.join_nil,Lib.join_one]
 | cons f e=>rw[List.map_singleton,up _ _ ar];simp
theorem Lh (e:F) (a:ac) (c:J) (p:∀b,b<c->0<=O a b) (x:c<=16):∃i j,(dG e a c).length=i+1 /\ (dG e a c)[i]? =Z j /\ (j=58↔bQ a c=[]):=by
 cases h:bQ a c with
 | nil=>exact⟨(Lib.itoa e).length,58,by unfold dG;rw[h];simp[Lib.join_nil],by unfold dG;rw[h];simp[Lib.join_nil],ar⟩
 | cons w v =>
  obtain⟨g,n⟩:∃g,(w::v).getLast?=Z g:=⟨_,List.getLast?_eq_some_getLast ar⟩
  have t:g∈bQ a c:=by rw[h];exact List.mem_of_getLast? n
  have z:=mm t
  obtain⟨b,rfl⟩:∃b:J,g=(b:F):=⟨g.toNat,E⟩
  have r:=p b E
  have l:=Ch (O a b)
  obtain⟨d,k⟩:∃d,(Lib.itoa (O a b)).getLast?=Z d:=⟨_,List.getLast?_eq_some_getLast (λ f=>by rw[f] at l;simp at l)⟩
  have q:=qN r (List.mem_of_getLast? k)
  have m:(di a (b:F)).getLast?=Z d:=by
   unfold di;rw[cI,vb];have:(32::Lib.itoa (O a b)).getLast?=Z d:=by
    rw[List.getLast?_cons];rw[k];rfl
   rw[this];rfl
  have o:(dG e a c).getLast?=Z d:=by
   obtain⟨u,s⟩:=List.getLast?_eq_some_iff.1 n;unfold dG;rw[h,s,g7,List.map_singleton];cases u with
   | nil=>rw[List.map_nil,List.nil_append,Lib.join_one,vb,List.getLast?_cons,m];rfl
   | cons B A=>rw[up _ _ ar,vb,List.getLast?_cons,vb,m];rfl
  have y:0<(dG e a c).length:=by unfold dG;simp;omega
  refine⟨(dG e a c).length -1,d,E,by rw[<- List.getLast?_eq_getElem?];exact o,⟨λ f=>by rw[f] at q;have:(58:b3).toNat=58:=rfl;omega,λ f=>by cases f⟩⟩
theorem Ma (c:F) (b:ac) (g:0<=c) (h:c<=1000000) (e:∀a,a<b.length->0<=O b a /\ O b a<=1000000) (k:b.length<=16):∀a,a<=b.length->(dG c b a).length<=8+13*a:=by
 intro a;induction a with
 | zero=>intro _;have:=lp g h;unfold dG;simp[bQ,bx,Lib.join_nil];omega
 | succ a i =>
  intro n
  have j:=i E
  by_cases d:O b a=0
  ·rw[B4 d];omega
  ·rw[B5 d];have l:=lp (e a E).1 (e a E).2;have f:=nF ⟨a,E⟩;simp only at f;have m:(di b (a:F)).length<=12:=by unfold di;rw[cI,dm,jG];omega
   split<;>simp<;>omega
theorem Fe (c:F) (K:aG) (X Z3:J) (b:ac) (u:af) (D:an u K X b) (A:aI c b=ae):
  aC 22 #[am c K X Z3] u (aE (ai (bd c b))):=by
 obtain⟨ZX,ZN,Z1,G,_⟩:=bt A;have Zz:1<=c /\ c<=4:=by rcases cG.1 ZX with L | L | L | L<;>omega
 obtain rfl:X=b.length:=D.len.symm;have ZS:=ab A;have Z7:=ab (Ma c b E E G Z1);have Z5:=ab (λ a (V:a<=b.length)=>Lh c b a (λ ZL ZC=>(G ZL E).1) E);have Z4:=ab G;have Z6:=ab (L9 A);have o:U (∀d H,0<=d->d<=1000000->aC 64 #[M d] H (aE (ai (Lib.itoa d)))):= λ d H m N=>qt d E E H
 have ZT:U (ai (Lib.itoa c)++aN #[58]=ai (dG c b 0)):=by rw[U,show aN #[58]=ai [58] from I,dd];unfold dG;simp[bQ,bx,Lib.join_nil]
 obtain⟨i,ZZ⟩:∃i,b.length=i:=⟨_,I⟩;rw[ZZ] at D Z1 Z7 Z5 Z4 Z6 ⊢;have ZO:=lp (x:=c) E E;have Zx:¬9223372036854775807<(ai (Lib.itoa c)).size +(aN #[58]).size:=by rw[bs];simp[eX];omega
 rw[<- Z6.o];clear ZX ZN G ZZ A ZO;go_enter func22,ntmps22;go_wp2_with fail;refine(dA _ _ _ _ b _ (D.below aD)).mono ?_;rw[ZS.o];rintro Z2 ZG ⟨rfl,w⟩;have Y:=aS w u.heap.size 0 (M c);have Zv:=aS w u.heap.size 1 (aa K i Z3);have ZQ:ap u ZG:=bJ w;clear w;go_wp2_with fail;refine(o.o c _ E E).mono ?_;rintro Z2 ZW ⟨rfl,x⟩;have ZV:=ag x Y;have ZU:=ag x Zv;have ZP:=au ZQ x;clear x Y Zv;go_wp2_with fail;rw[ZT.o];go_loopw [3,4] (λ ZH W wr=>∃a:J,a<=i /\ W=M a /\ ZH=aE (ai (dG c b a)) /\ ap ZW wr) (λ _ W _=>i-(intOf W).toNat)
 case atStart=>exact⟨0,E,I,I,aD⟩
 case round =>
  obtain⟨a,V,rfl,rfl,q⟩:=hrel;have Z0:=au ZP q;have Y:=ag q ZV;have Zv:=ag q ZU;by_cases ZY:a<i
  ·obtain⟨ZF,Zw,rfl,_,_,ZD⟩:=D.at Z0 ZY;have f:=Z4.o a ZY;have ZB:(0:F)<=(a:F):=E;have ZA:(a:F)<(i:F):=E;have t:a<16:=E;by_cases m:O b a=0
   ·have l:=ab (B4 (s:=c) m);have ZM:¬0<O b a:=E;clear m;go_wp2;go_roundw
    case rel=>exact⟨a+1,E,by go_num,by rw[l.o],q⟩
    case measure=>simp[intOf];omega
   ·have l:=ab (B5 (s:=c) m);have ZM:0<O b a:=E;obtain⟨k,ZR,Q,S,z⟩:=Z5.o a V;have R:=Z7.o a V;have v:(ai (dG c b a)).size=k+1:=by rw[bs,Q]
    have r:k<(ai (dG c b a)).size:=E;have ZE:(0:F)<=(k:F):=E;have y:(ai (dG c b a))[k]=ZR:=by
     have N:=jq (ai (dG c b a)) k r;rw[cE,S] at N;exact(iO N).symm
    have B:=nF ⟨a,t⟩;simp only at B;have T:=lp f.1 f.2;have e:U ((ai (cd a)).size<=4 /\ (ai (Lib.itoa (O b a))).size<=7 /\ (ai (dG c b a)).size<=8+13*a):=by rw[U,bs,bs,bs];exact⟨B,T,R⟩
    by_cases n:bQ b a=[]
    ·have s:(((ai (dG c b a))[k].toNat:F) != 58)=ak:=by rw[y,z.2 n];rfl
     have j:U (ai (dG c b a)++ai (cd a)++aN #[32]++ai (Lib.itoa (O b a))=ai (dG c b (a+1))):=by
      rw[U,l.o,a7 n,show aN #[32]=ai [32] from I,dd,dd,dd];unfold di;simp
     clear y z S Q m n B T R l;revert v r e s j;generalize ai (dG c b a)=g;intro v r e s j;have Z9:(aN #[32]).size=1:=rfl;have Z8:(aN #[44]).size=1:=rfl;generalize O b a=d at *;have ZK:¬9223372036854775807<g.size+(ai (cd a)).size:=by have:=e.o;omega
     have ZJ:¬9223372036854775807<(g++ai (cd a)).size +(aN #[32]).size:=by rw[cZ];have:=e.o;omega
     have ZI:¬9223372036854775807<(g++ai (cd a)++aN #[32]).size +(ai (Lib.itoa d)).size:=by rw[cZ,cZ];have:=e.o;omega
     clear Z9 Z8;go_wp2;refine cC ?_;repeat (first | go_big_quiet_step ((first | (go_at_call 23;(with_reducible exact aQ (la a _ t))) | (go_at_call 64;(with_reducible exact aQ (o.o d _ f.1 f.2))))) | quiet_step ((first | (go_at_call 23;(with_reducible exact aQ (la a _ t))) | (go_at_call 64;(with_reducible exact aQ (o.o d _ f.1 f.2))))))
     refine ko ?_;intro C p;have P:=au q p;go_wp2;go_roundw
     case rel=>exact⟨a+1,E,by go_num,by rw[j.o],P⟩
     case measure=>simp[intOf];omega
    ·have s:(((ai (dG c b a))[k].toNat:F) != 58)=ae:=by
      rw[y,bne_iff_ne];intro Z2;exact n (z.1 (UInt8.toNat_inj.1 (by have:(58:b3).toNat=58:=rfl;omega)))
     have j:U (ai (dG c b a)++aN #[44]++ai (cd a)++aN #[32]++ai (Lib.itoa (O b a))=ai (dG c b (a+1))):=by
      rw[U,l.o,aF n,show aN #[32]=ai [32] from I,show aN #[44]=ai [44] from I,dd,dd,dd,dd];unfold di;simp
     clear y z S Q m n B T R l
     revert v r e s j
     generalize ai (dG c b a)=g
     intro v r e s j
     have Z9:(aN #[32]).size=1:=rfl
     have Z8:(aN #[44]).size=1:=rfl
     generalize O b a=d at *
     have Zy:¬9223372036854775807<g.size+(aN #[44]).size:=by have:=e.o;omega
     have ZK:¬9223372036854775807<(g++aN #[44]).size +(ai (cd a)).size:=by rw[cZ];have:=e.o;omega
     have ZJ:¬9223372036854775807<(g++aN #[44]++ai (cd a)).size +(aN #[32]).size:=by rw[cZ,cZ];have:=e.o;omega
     have ZI:¬9223372036854775807<(g++aN #[44]++ai (cd a)++aN #[32]).size +(ai (Lib.itoa d)).size:=by rw[cZ,cZ,cZ];have:=e.o;omega
     clear Z9 Z8
     go_wp2
     refine gj ah ah ?_
     repeat (first | go_big_quiet_step ((first | (go_at_call 23;(with_reducible exact aQ (la a _ t))) | (go_at_call 64;(with_reducible exact aQ (o.o d _ f.1 f.2))))) | quiet_step ((first | (go_at_call 23;(with_reducible exact aQ (la a _ t))) | (go_at_call 64;(with_reducible exact aQ (o.o d _ f.1 f.2))))))
     refine dn ?_
     refine dg ?_
     intro C p
     have P:=au (by exact aD:ap ZW _) p
     go_wp2
     go_roundw
     case rel=>exact⟨a+1,E,by go_num,by rw[j.o],P⟩
     case measure=>simp[intOf];omega
  ·obtain rfl:a=i:=E;go_wp2;go_ret;exact⟨I,Z0⟩
end Go.Proofs.YtkjnhlpccgjfhaaGreatDoor
