/- A part of the proof: lemmas (my texts, shortened by a program of mine). -/
import Derived.Deep.RegionHeld3
import Derived.Lib.IndexMore
import Derived.Test.YtkjnhlpccgjfhaaGreatDoorC14
import Derived.Test.YtkjnhlpccgjfhaaGreatDoorC22
set_option linter.all false
set_option maxRecDepth 100000
set_option maxHeartbeats 4000000
namespace Go.Proofs.YtkjnhlpccgjfhaaGreatDoor
open Go.RowKit
open Go.Proofs.Tryz
open Bool renaming false->ak,true->ae
open _root_.ByteArray renaming ext->lN,mk->aN,size->eX,size_append->cZ
open Classical renaming byContradiction->jJ
open Go renaming Calls->aY,Oper->bD,Value->ay,World->af,bodyPost_ret->aK,results->aJ,wpQuiet_nil->dn
open Go.Ending renaming returned->aV
open Go.Lib renaming countB->iv,cut->h4,index->gA,toList_data->mG
open Go.Obj renaming cells->al
open Go.Value renaming agg->ba,bool->aw,slice->aa,string->aE,tuple->aL
open Go.World renaming cell?_setCell_other->c3,cell?_setCell_same->fZ,ownsRow_lit->fF
open Int renaming toNat_natCast->cI
open List renaming append_assoc->lM,cons_append->lO,getD_eq_getElem?_getD->jH,getElem?_eq_getElem->fV,getElem?_map->jE,length_append->dm,length_cons->jG,length_map->ec,length_set->iu,map_append->g7,mem_append->nW,mem_cons_of_mem->kN,replicate->bE,take_add_one->kO
open Nat renaming le_refl->bL,lt_of_lt_of_le->cm
open Option renaming none->aj,some->Z
open Or renaming inl->bj,inr->aP
open UInt8 renaming ofNat->it
open _root_ renaming Array->bg,Bool->a8,ByteArray->ch,Int->F,List->aU,Nat->J,UInt8->b3,absurd->bC,beq_eq_false_iff_ne->dx,congrArg->be,if_neg->aF,if_pos->a7,rfl->I
variable {p q:Prop}
def OO (a:F):Prop:=(-1000000000<=a /\ a<=1000000000) \/ a= -9223372036854775808
def vh (a:ac):Prop:=a.length<=4 /\ ∀b∈a,OO b
theorem vh.i64 {b:ac} (c:vh b):h5 b:= λ e a=>by
 rw[cK _ _ a];rcases c.2 _ (List.getElem_mem a) with d | d<;>omega
def ve (b:J) (c:ay) (_:af):Prop:=∃a:ch,a.size<=b /\ c=aE a
theorem kL (c e f b n H:J) (d:af) (q:dW d c e) (o:e<=1000000000) (k:∀a,a<b->∃g:ch,g.size<=H /\ d.cell? (ad f a)=Z (aE g)) (w:f<d.heap.size) (v:f≠c) (z:0<b) (A:b<=1000):
  aY prog 20 #[br c,aq f b n] d (n5 c (e+1) d (ve H)):=by
 have m:=ab k;clear k;go_enter func20,ntmps20;go_wp2_with fail;refine(eN c e _ _ q o E).mono ?_;rintro t G ⟨D,rfl,⟨l,rfl,B,C⟩,r,j⟩;obtain⟨a,rfl⟩:∃a:J,l=(a:F):=⟨l.toNat,E⟩;have p:a<b:=E;have x:(0:F)<=(a:F):=E;have y:(a:F)<(b:F):=E;obtain⟨g,s,i⟩:=m.o a p;have u:=aA.keep j i E;clear i;go_wp2;go_ret;exact⟨_,I,⟨g,s,I⟩,r,j⟩
theorem Al {c a:b3} (b:ax) (e:c≠a):gA (c::b) [a]=if gA b [a]== -1 then -1 else gA b [a]+1:=by
 have f:([a]:ax).isPrefixOf (c::b)=ak:=by
  simp[List.isPrefixOf];exact λ d=>e d.symm
 rw[gA,f];rfl
theorem q3 (b:b3):∀(a c:ax),b∉a->gA (a++b::c) [b]=a.length
 | [],c,_=>by
  have g:([b]:ax).isPrefixOf (b::c)=ae:=by simp[List.isPrefixOf]
  rw[List.nil_append,gA,a7 g];rfl
 | f::a,c,e=>by
  have h:f≠b:= λ d=>e (by rw[d];exact List.mem_cons_self ..)
  have j:=q3 b a c (λ d=>e (kN _ d));have i:(((a.length:J):F)== -1)=ak:=by rw[dx];omega
  rw[lO,Al _ h,j,i];show (a.length:F)+1=((a.length+1:J):F);omega
theorem qJ (a:b3):∀b:ax,a∉b->gA b [a]= -1
 | [],_=>rfl
 | e::b,d=>by
  have f:e≠a:= λ c=>d (by rw[c];exact List.mem_cons_self ..)
  rw[Al _ f,qJ a b (λ c=>d (kN _ c))];rfl
theorem o9 (a:b3) (b c:ax) (f:a∉b):h4 (b++a::c) [a]=(b,c,ae):=by
 unfold h4;rw[q3 a b c f,a7 E,cI];have d:(b++a::c).take b.length=b:=List.take_left;have e:(b++a::c).drop (b.length+([a]:ax).length)=c:=by
  rw[show b.length+([a]:ax).length=(b++[a]).length from ar,show b++a::c=(b++[a])++c from ar];exact List.drop_left
 rw[d,e]
theorem rh (b:b3) (a:ax) (c:b∉a):h4 a [b]=(a,[],ak):=by
 unfold h4;rw[qJ b a c,aF E]
def eL:aU (ax)->ax
 | []=>[]
 | b::a=>b++10::eL a
theorem Kj (b a:aU (ax)):eL (b++a)=eL b++eL a:=by
 induction b with
 | nil=>rfl
 | cons d c e=>show d++10::eL (c++a)=(d++10::eL c)++eL a;rw[e];simp
def mF (a:J):b3:=it (97+a)
def gr (c d:J):ax:=bx (λ b a=>if bZ c b then a++[mF b] else a) [] d
theorem A3 (b a:J):gr b (a+1)=if bZ b a then gr b a++[mF a] else gr b a:=rfl
def cd (a:J):ax:=if gr a 4=[] then [45] else gr a 4
theorem Cm:∀a b:Fin 16,cd a.val=cd b.val->a.val=b.val:=cS
theorem nF:∀a:Fin 16,(cd a.val).length<=4:=cS
theorem Bu:∀a:Fin 16,∀b:Fin 5,(gr a.val b.val).length<=4:=cS
theorem JT:∀b:Fin 16,((cd b.val).all λ a=>a==45||(97<=a.toNat&&a.toNat<=100))=ae:=cS
theorem us {b:J} (e:b<16) {a:b3} (d:a∈cd b):a=45 \/ (97<=a.toNat /\ a.toNat<=100):=by
 have c:=JT ⟨b,e⟩;rw[List.all_eq_true] at c;have:=c a d;simpa using this
def di (b:ac) (a:F):ax:=cd a.toNat++32::Lib.itoa (O b a.toNat)
def dM (a:ac):aU (ax):=(bQ a a.length).map (di a)
def bd (a:F) (b:ac):ax:=if aI a b then Lib.itoa a++58::Lib.join (dM b) [44] else []
theorem qN {b:F} (d:0<=b) {a:b3} (c:a∈Lib.itoa b):48<=a.toNat /\ a.toNat<=57:=by
 rw[jp b d] at c;exact uU _ a c
theorem Aq {e:ac} {c:F} (g:0<=c /\ c<16) (f:0<=O e c.toNat) {b:b3} (d:b∈di e c):b=32 \/ b=45 \/ (48<=b.toNat /\ b.toNat<=57) \/ (97<=b.toNat /\ b.toNat<=100):=by
 unfold di at d;rw[nW,List.mem_cons] at d;rcases d with a | a | a
 ·rcases us E a with a | a
  ·exact aP (bj a)
  ·exact aP (aP (aP a))
 ·exact bj a
 ·exact aP (aP (bj (qN f a)))
theorem mm {e:ac} {b:J} {c:F} (a:c∈bQ e b):0<=c /\ c<b:=by
 induction b with
 | zero=>simp[bQ,bx] at a
 | succ b d =>
  rw[hH] at a
  split at a
  ·have:=d a;omega
  ·rw[nW] at a;rcases a with a | a
   ·have:=d a;omega
   ·simp at a;omega
theorem Ga {P:b3->Prop} {ws:aU (ax)} {sep:ax} (e:∀f∈ws,∀a∈f,P a) (j:∀a∈sep,P a):∀a∈Lib.join ws sep,P a:=by
 induction ws with
 | nil=>intro a b;rw[Lib.join_nil] at b;simp at b
 | cons d m l =>
  cases m with
  | nil=>intro a b;rw[Lib.join_one] at b;exact e d ar a b
  | cons h g =>
   intro a b
   have i:Lib.join (d::h::g) sep=d++(sep++Lib.join (h::g) sep):=by
    rw[Lib.join_cons,Lib.join_cons];simp[Lib.joinTail,lM]
   rw[i,nW,nW] at b
   rcases b with c | c | c
   ·exact e d ar a c
   ·exact j a c
   ·exact l (λ f k=>e f (kN _ k)) a c
theorem MD {c:ac} {b:F} (d:0<=b /\ b<16) (e:0<=O c b.toNat):(44:b3)∉di c b:= λ a=>by
 rcases Aq d e a with a | a | a | a
 ·exact bC a aX
 ·exact bC a aX
 ·have:(44:b3).toNat=44:=rfl;omega
 ·have:(44:b3).toNat=44:=rfl;omega
theorem NE {b:J} (c:b<16):(32:b3)∉cd b:= λ a=>by
 rcases us c a with a | a
 ·exact bC a aX
 ·have:(32:b3).toNat=32:=rfl;omega
theorem CR {a:F} (b:0<=a):(58:b3)∉Lib.itoa a:= λ c=>by
 have:=qN b c;have:(58:b3).toNat=58:=rfl;omega
theorem uK {b:aU (ax)} {c:b3} {g:J} (h:∀f∈b,f.length<=g):(Lib.join b [c]).length<=(g+1)*b.length:=by
 induction b with
 | nil=>simp[Lib.join_nil]
 | cons d m i =>
  have o:=h d ar
  have i:=i λ f l=>h f (kN _ l)
  cases m with
  | nil=>rw[Lib.join_one];simp;omega
  | cons e a =>
   have j:Lib.join (d::e::a) [c]=d++([c]++Lib.join (e::a) [c]):=by
    rw[Lib.join_cons,Lib.join_cons];simp[Lib.joinTail,lM]
   have n:([c]:ax).length=1:=rfl
   have k:(d::e::a).length=(e::a).length +1:=rfl
   rw[j,dm,dm,k,Nat.mul_add]
   omega
theorem lp {x:F} (a:0<=x) (b:x<=1000000):(Lib.itoa x).length<=7:=by
 rw[jp x a];exact o8 6 _ E
theorem hJ (g:F) (a:ac):(bd g a).length<=220:=by
 unfold bd;split
 ·next j =>
  obtain⟨o,s,l,i,_⟩:=cv j;refine l2 ?_;intro D;have k:=lp (x:=g) E E;have m:(dM a).length<=16:=by unfold dM;rw[ec];have:=oM a a.length;omega
  have n:(Lib.join (dM a) [44]).length<=(12+1)*(dM a).length:=uK λ t b=>by
   unfold dM at b;rw[List.mem_map] at b;obtain⟨c,f,rfl⟩:=b;have p:=mm f;have d:=i c.toNat E;have q:=lp d.1 d.2;have e:=nF ⟨c.toNat,E⟩;unfold di;simp only at e;exact sc
  exact sc
 ·simp
theorem LW {a:ac} {b:J} (f:b<a.length) (e:O a b≠0):bQ a a.length≠[]:=by
 obtain⟨c,d⟩:∃c,a.length=b+1+c:=⟨a.length-(b+1),E⟩;rw[d];clear d f;induction c with
 | zero=>rw[Nat.add_zero,hH,aF e];simp
 | succ c g =>
  rw[<- Nat.add_assoc,hH]
  split
  ·exact g
  ·simp
theorem LX {l:F} {b:ac} (j:aI l b=ae):dM b≠[]:=by
 obtain⟨_,_,_,o,m,_⟩:=cv j;have:∃a,a<b.length /\ O b a≠0:=by
  refine jJ λ i=>?_
  have g:∀a,a<=b.length->cH b a=0:=by
   intro a d;induction a with
   | zero=>rfl
   | succ a k =>
    have h:O b a=0:=jJ λ c=>i ⟨a,E,c⟩
    show cH b a+O b a=0
    rw[k E,h];rfl
  have c:=g b.length aZ;have n:aW b=0:=c;omega
 obtain⟨a,d,f⟩:=this;unfold dM;intro e;exact LW d f (List.map_eq_nil_iff.1 e)
theorem Bv {g:F} {b:ac} (c:aI g b=ae):bo 44 (Lib.join (dM b) [44])=dM b:=by
 obtain⟨_,_,h,f,_⟩:=cv c;refine uJ 44 _ (LX c) λ j a=>?_
 unfold dM at a;rw[List.mem_map] at a;obtain⟨d,e,rfl⟩:=a;have i:=mm e;exact MD E (f d.toNat E).1
theorem Kk {a:F} {c:ac} (d:aI a c=ae):h4 (bd a c) [58]=(Lib.itoa a,Lib.join (dM c) [44],ae):=by
 have e:=(cv d).1;have f:1<=a:=by rcases cG.1 e with b | b | b | b<;>omega
 unfold bd;rw[a7 d];exact o9 58 _ _ (CR E)
theorem LY {xs:ac} {a:F} (b:0<=a /\ a<16):h4 (di xs a) [32]=(cd a.toNat,Lib.itoa (O xs a.toNat),ae):=by
 unfold di;exact o9 32 _ _ (NE E)
def i8 (f:ac) (a:ac) (c d:J):ac:=bx (λ b e=>e.set (O a b).toNat (O f (O a b).toNat)) (bE c 0) d
theorem qK (c a:ac) (d b:J):i8 c a d (b+1)=(i8 c a d b).set (O a b).toNat (O c (O a b).toNat):=rfl
theorem ut (e c:ac) (b a:J):(i8 e c b a).length=b:=by
 induction a with
 | zero=>simp[i8,bx]
 | succ a d=>rw[qK,iu];exact d
theorem NF (h:ac) (c d:J):∃b,bQ h (c+d)=bQ h c++b /\ ∀e∈b,(c:F)<=e:=by
 induction d with
 | zero=>exact⟨[],ar,ar⟩
 | succ d i =>
  obtain⟨b,f,g⟩:=i
  rw[<- Nat.add_assoc,hH]
  split
  ·exact⟨b,f,g⟩
  ·refine⟨b++[((c+d:J):F)],by rw[f,lM],λ e a=>?_⟩;rw[nW] at a;rcases a with a | a
   ·exact g e a
   ·simp at a;omega
theorem NG (d:ac) (c:J) (m:d.length=c):∀a,a<c->O (i8 d (bQ d c) c (bQ d c).length) a=O d a:=by
 have l:∀b,b<=c->∀a,a<c->O (i8 d (bQ d c) c (bQ d b).length) a=if a<b then O d a else 0:=by
  intro b;induction b with
  | zero=>intro _ a _;show O (bE c 0) a=_;rw[eF,aF E]
  | succ b g =>
   intro n a f
   have g:=g E
   rw[hH]
   split
   ·next h =>
    rw[g a f];by_cases e:a<b
    ·rw[a7 e,a7 E]
    ·by_cases i:a=b
     ·subst i;rw[aF e,a7 E,h]
     ·rw[aF e,aF E]
   ·next h =>
    obtain⟨o,e,_⟩:=NF d (b+1) (c-(b+1));rw[show b+1+(c-(b+1))=c from E,hH,aF h] at e;have k:O (bQ d c) (bQ d b).length=(b:F):=by
     rw[e];unfold O;simp
    rw[dm,List.length_singleton,qK,k,cO,ut,cI];by_cases i:b=a
    ·subst i;rw[a7 ⟨rfl,E⟩,a7 E]
    ·rw[aF E,g a f];by_cases j:a<b
     ·rw[a7 j,a7 E]
     ·rw[aF j,aF E]
 intro a f;rw[l c aZ a f,a7 f]
theorem CS (a:ac):i8 a (bQ a a.length) a.length (bQ a a.length).length=a:=by
 refine kI _ _ (ut _ _ _ _) λ c b=>?_
 rw[ut] at b;exact NG a _ I c b
theorem j5 {a b:ax} (c:a≠b):((ai a).toList==(ai b).toList)=ak:=by
 rw[dx,mG,mG,cE,cE];exact c
theorem u0 (a:ax):((ai a).toList==(ai a).toList)=ae:=beq_self_eq_true _
theorem qj {c:af} {u:bg bD} {rest:aU bD} {l:bD} {h:Act} {s:Exit->Act->af->Prop} (z:l.guard=aj) (n q:Operand)
  (C:l.op=.call {callee:=.builtin .append,args:=#[n,q],argTypes:=#[34,34]})
  (i:J) (f:ay) (g:aU ch) (k:J) (B:g.length=k) (F:h.eval n=f) (D:cb c i f g)
  (m:Addr) (t:J) (p:ch) (G:h.eval q=aa (Z m) 1 t) (o: c.cell? m=Z (aE p))
  (Q:k<1000000000) (y:i<=c.heap.size)
  (w:∀d j e,cb e i (aq d (k+1) j) (g++[p])->c.grownBy e f.ownBlock->(f.ownBlock=Z d \/ d=c.heap.size)->wpList prog u s rest (h.put l.dst (aq d (k+1) j)) e):
  wpList prog u s (l::rest) h c:=by
 obtain⟨M,A,H,K,L⟩:=info_parts Cj;subst B;refine wpList_plain z λ _ x=>wp_append_lies c n q 34 C i 9 M (aE ByteArray.empty) 1 16 underlying34 A H K L I aX f g.length (g.map Value.string) F D m 1 t [aE p] G I ?_ ?_ aX (by unfold maxLen;omega) E y _ I λ d j e N O P R=>x _ _ (w d j e ?_ O P)
 ·intro b v a;exact mN
 ·intro v r;simp at r;subst r;rfl
 ·simpa [cb] using N
theorem Dt (a:J) (b:a<4):(aN #[97,98,99,100]).extract a (a+1)=ai [mF a]:=by
 rcases(show a=0 \/ a=1 \/ a=2 \/ a=3 from E) with rfl | rfl | rfl | rfl<;>rfl
theorem mf (b:J) (i:af) (l:b<16):
  aC 141 #[M b] i (aE (ai (cd b))):=by
 go_enter func141,ntmps141;go_wp2;go_loopw [3,4,5] (λ s x g wr=>ap i wr /\ ∃a:J,a<=4 /\ g=M a /\ s=aE (ai (gr b a))) (λ _ _ g _=>4-(intOf g).toNat)
 case atStart=>exact⟨Below.refl _ _,0,E,I,I⟩
 case round =>
  obtain⟨e,a,u,rfl,rfl⟩:=hrel;by_cases m:a<4
  ·have v:(0:F)<=(a:F):=E;have w:(a:F)<4:=E;have t:=mu b a E;have o:=Bu ⟨b,l⟩ ⟨a,E⟩;simp only at o;have p:=Dt a m;have r:¬9223372036854775807<(ai (gr b a)).size +(ai [mF a]).size:=by rw[bs,bs];simp;omega
   have d:=ab (A3 b a);cases c:bZ b a
   ·have k:b.testBit a=ak:=c;rw[c] at d;clear r p;go_wp2;exact yi
   ·have k:b.testBit a=ae:=c;rw[c] at d;have q:U (ai (gr b (a+1))=ai (gr b a)++ai [mF a]):=by rw[U,d.o,a7 rfl,dd]
    clear d;go_wp2;exact wU
  ·obtain rfl:a=4:=E;by_cases f:gr b 4=[]
   ·have n:=ab (kr (gr b 4) ae (by rw[f];rfl));have z:(ai (gr b 4)).toList.isEmpty=ae:=n.o;have j:U (cd b=[45]):=by show cd b=[45];unfold cd;rw[a7 f]
    clear f;exact pC
   ·have n:=ab (kr (gr b 4) ak (by cases y:gr b 4 with | nil=>exact bC y f | cons _ _=>rfl));have z:(ai (gr b 4)).toList.isEmpty=ak:=n.o;have j:U (cd b=gr b 4):=by show cd b=_;unfold cd;rw[aF f]
    clear f;exact pC
theorem GV (b:J) (k:af) (j:b<16):
  aC 51 #[aE (ai (cd b))] k (aL #[M b,aw ae]):=by
 obtain⟨e,d⟩:∃e,U (ai (cd b)=e):=⟨_,I⟩;rw[d.o];go_enter func51,ntmps51;go_wp2;go_loopw [4,5] (λ q r wr=>ap k wr /\ ∃a:J,a<=b /\ r=M a) (λ _ r _=>16-(intOf r).toNat)
 case atStart=>exact⟨Below.refl _ _,0,E,I⟩
 case round =>
  obtain⟨i,a,m,rfl⟩:=hrel;have n:(a:F)<16:=E;by_cases o:a<b
  ·have p:((ai (cd a)).toList==e.toList)=ak:=by
    rw[<- d.o];exact j5 λ f=>by have:=Cm ⟨a,E⟩ ⟨b,j⟩ f;simp only at this;omega
   go_wp2_with fail
   refine(mf a _ E).mono ?_;rintro f l ⟨rfl,c⟩
   have g:=au i c
   clear c
   go_wp2
   go_roundw
   case rel=>exact⟨g,a+1,E,by go_num⟩
   case measure=>simp[intOf];omega
  ·obtain rfl:a=b:=E;go_wp2_with fail;refine(mf a _ j).mono ?_;rw[d.o];rintro f l ⟨rfl,c⟩;have g:=au i c;clear c;go_wp2;refine aK (v:=aL #[M (a:F),aw ae]) (by simp[aJ,results51,go_sem]) I ⟨I,g⟩
theorem ma (g:F) (Z7:aG) (ZW ZM:J) (m:ac) (a:af) (u:an a Z7 ZW m) (Y2:dp a):
  aC 137 #[am g Z7 ZW ZM] a (aE (ai (bd g m))):=by
 have ZP:U (ai [44]=aN #[44]):=ab I;cases G:aI g m
 ·have T:U (bd g m=[]):=by show bd g m=[];unfold bd;rw[G];rfl
  go_enter func137,ntmps137;go_wp2_with fail;refine qf ?_;rw[G];rintro f k ⟨rfl,i⟩;refine ic ?_;intro l;clear i;go_wp2;go_ret;exact⟨by rw[T.o];rfl,l⟩
 ·obtain⟨o,Y5,Zj,ZG,_⟩:=cv G;refine l2 ?_;intro D;obtain rfl:ZW=m.length:=u.len.symm;have Zo:=ab G;have Zr:=ab ZG;have T:U (bd g m=Lib.itoa g++58::Lib.join (dM m) [44]):=by show bd g m=_;unfold bd;rw[G];rfl
  have Zp:=ab (hJ g m);obtain⟨q,L⟩:∃q,bQ m m.length=q:=⟨_,I⟩;have V:U (∀c∈q,0<=c /\ c<(m.length:F)):=by rw[<- L];exact λ c Ze=>mm Ze
  have Zm:U (dM m=q.map (di m)):=by show dM m=_;unfold dM;rw[L]
  have Y9:q.length<=16:=by rw[<- L];have:=oM m m.length;omega
  obtain⟨Z8,Z5⟩:∃Z8,q.length=Z8:=⟨_,I⟩;rw[Z5] at Y9;have B:=ab Z5;have ZQ:=ab L;obtain⟨W,Z4⟩:∃W,m.length=W:=⟨_,I⟩;have Zn:=ab Z4;rw[Z4] at u Zj ZQ V ⊢;clear G ZG Y5 L Z5 Z4;go_enter func137,ntmps137;go_wp2_with fail;refine qf ?_;rw[Zo.o];rintro f k ⟨rfl,i⟩;have P:=aS i a.heap.size 0 (M g);have Q:=aS i a.heap.size 1 (aa Z7 W ZM);have YO:a.heap.size<k.heap.size:=by have:=i.size;simp at this;omega
  refine ic ?_;intro l;clear i;go_wp2_with fail;obtain⟨ZV,H⟩:∃j:af,k.alloc (al #[] 9)=j:=⟨_,I⟩;rw[H];have X:ap k ZV:=by rw[<- H];exact az _ _
  have Zu:cb ZV k.heap.size (aq k.heap.size 0 0) []:=by rw[<- H];exact cb.lit _
  have Y1:k.heap.size<ZV.heap.size:=by rw[<- H];simp
  replace P:=ag X P;replace Q:=ag X Q;have ZJ:=au l X;clear X H;refine(tB _ _ _ _ m _ (u.below ZJ) E).mono ?_;rw[ZQ.o];rintro f R ⟨YF,rfl,K,A⟩;obtain⟨Zk,t,Zl,rfl,Za⟩:=K.ints;obtain rfl:t=Z8:=by rw[<- Za.len,B.o]
  replace P:=ag A P;replace Q:=ag A Q;have ZK:=au ZJ A;have Zt:=Zu.below A;have YN:=A.size;replace K:av R (k.heap.size+1) (aa Zk t Zl) q:=K.mono E;obtain⟨d,ZI⟩:∃d,k.heap.size=d:=⟨_,I⟩;rw[ZI] at Zt Y1 K ⊢;have YU:a.heap.size<d:=E;clear A Zu ZI;go_wp2;go_loopw [3,5,13] (λ YX YG ZX wr=>∃(b n y:J),b<=t /\ ZX=M b /\ YX=aq n b y /\ cb wr d (aq n b y) ((q.take b).map λ c=>ai (di m c)) /\ aA d (d+1) R wr /\ (n=d \/ R.heap.size<=n)) (λ _ _ ZX _=>t-(intOf ZX).toNat)
  case atStart=>exact⟨0,d,0,E,I,I,Zt,aA.refl _ _ _,bj I⟩
  case round =>
   obtain⟨b,n,y,YR,rfl,rfl,Y,s,YS⟩:=hrel;have Z6:ap a wr:=aA.below ZK ZK.size s E;have YI:=aA.keep s P E;have YH:=aA.keep s Q E;have YL:=s.size;have ZZ:=Y2.below Z6;by_cases Z0:b<t
   ·have YQ:(0:F)<=(b:F):=E;have YP:(b:F)<(t:F):=E;have Y3:=aA.row s K (λ ZN f=>by have:=(K.block ZN f).1;omega);obtain⟨YW,YK,rfl,_,_,Zc⟩:=Y3.view.at bA Z0;refine zo ?_;intro j z N v;have Z9:U ((q.take (b+1)).map (λ c=>ai (di m c))=((q.take b).map λ c=>ai (di m c))++[ai (di m (j:F))]):=by
     rw[U,Ci _ _ z,g7,v];rfl
    rw[v] at Zc N;have Zy:j<W:=E;have H:(0:F)<=(j:F):=E;obtain⟨YV,YJ,rfl,_,_,Zb⟩:=u.at Z6 Zy;have ZY:=Zr.o j (by rw[Zn.o];exact Zy);have Zw:=nF ⟨j,E⟩;simp only at Zw;have ZH:ai (cd j)++aN #[32]++ai (Lib.itoa (O m j))=ai (di m (j:F)):=by
     rw[show aN #[32]=ai [32] from I,dd,dd];unfold di;simp
    have ZO:=ab ZH;obtain⟨w,Zs⟩:∃w,O m j=w:=⟨_,I⟩;rw[Zs] at Zb ZY ZO;have Y8:=lp ZY.1 ZY.2;have YZ:¬9223372036854775807<(ai (cd j)).size +(aN #[32]).size:=by rw[bs];simp[eX];omega
    have YY:¬9223372036854775807<(ai (cd j)++aN #[32]).size +(ai (Lib.itoa w)).size:=by rw[cZ,bs,bs];simp[eX];omega
    have Y4:((q.take b).map λ c=>ai (di m c)).length=b:=by rw[ec,List.length_take];omega
    clear v z Zs ZH Zw Y8;go_wp2;refine l7 11 _ _ ah ah I I I (λ _ _ _ _ _ r=>r) ⟨_,I⟩ ?_;refine dY ?_;repeat (first | go_big_quiet_step ((first | (go_at_call 141;(with_reducible exact aQ (mf j _ E))) | (go_at_call 55;(with_reducible exact aQ (kC w E E _ (ZZ.below (aM _ _)).pow))))) | quiet_step ((first | (go_at_call 141;(with_reducible exact aQ (mf j _ E))) | (go_at_call 55;(with_reducible exact aQ (kC w E E _ (ZZ.below (aM _ _)).pow))))))
    refine ko ?_;intro C p;have Zx:=Y.below p;have YM:=p.size;rw[ZO.o];go_wp2_with (at_builtin;refine qj I _ _ I d _ _ b Y4 a6 (Zx.below (az C _)) _ _ (ai (di m (j:F))) a6 ar E (by simp;omega) ?_;intro x ZT e ZR ZC ZD);have Zv:aA d (d+1) R (C.alloc (al #[aE (ai (di m (j:F)))] 9)):=(s.trans (aA.of_below p)).trans (aA.of_below (az _ _));have ZU:=ab (Zv.grown2 ZC (λ ZN f=>by have:=dD f;omega));have ZS:x=d \/ R.heap.size<=x:=by
     rcases ZD with r | r
     ·have:=dD r;omega
     ·simp at r;omega
    clear ZC Y Zx s Zv p ZD;exact xq
   ·obtain rfl:b=t:=E;have ZL:q.take b=q:=by rw[<- B.o];exact List.take_length
    rw[ZL] at Y;obtain⟨v,Y6,YT,ZE,Z3⟩:=Y.at;have YC:U (Lib.join ((q.map λ c=>ai (di m c)).map (·.data.toList)) (ai [44]).data.toList=Lib.join (dM m) [44]):=by
     rw[U,cE,Zm.o,List.map_map];congr 1
    have Zz:=Zp.o;rw[T.o,dm,jG] at Zz;have Z2:(Lib.join ((q.map λ c=>ai (di m c)).map (·.data.toList)) (ai [44]).data.toList).length<=140737488355328:=by
     rw[YC.o];omega
    have Z1:(q.map λ c=>ai (di m c)).length=b:=by rw[ec,B.o]
    have ZB:=Tryz.strings_Join n 0 y (q.map λ c=>ai (di m c)) (ai [44]) wr Z3 ZE E E Z2;rw[Z1,YC.o,ZP.o] at ZB;have ZA:∀e,ap wr e->aC 147 #[aq n b y,aE (aN #[44])] e (aE (ai (Lib.join (dM m) [44]))):= λ e S=>by
     have r:=Tryz.strings_Join n 0 y (q.map λ c=>ai (di m c)) (ai [44]) e (λ Y0 w Y7=>(ag S (Z3 Y0 w Y7))) (cm ZE S.size) E E Z2;rw[Z1,YC.o,ZP.o] at r;exact r
    have Zg:U (∀e,ap wr e->aC 55 #[M g] e (aE (ai (Lib.itoa g)))):= λ e S=>kC g E E e (ZZ.below S).pow
    have Zf:=ab ZA;have YZ:¬9223372036854775807<(ai (Lib.itoa g)).size +(aN #[58]).size:=by rw[bs];simp[eX];omega
    have YY:¬9223372036854775807<(ai (Lib.itoa g)++aN #[58]).size +(ai (Lib.join (dM m) [44])).size:=by rw[cZ,bs,bs];simp[eX];omega
    have Zq:U (ai (Lib.itoa g)++aN #[58]++ai (Lib.join (dM m) [44])=ai (bd g m)):=by
     rw[U,T.o,show aN #[58]=ai [58] from I,dd,dd];simp
    clear ZB ZA ZL Z2 v Z1 Z3 Zz Y6;go_wp2_with fail;refine(Zg.o _ bA).mono ?_;rintro f YE ⟨rfl,ZF⟩;have Zi:=au Z6 ZF;go_wp2_with fail;refine(Zf.o _ ZF).mono ?_;rintro f YD ⟨rfl,Zd⟩;have Zh:=au Zi Zd;go_wp2;go_ret;exact⟨by rw[<- Zq.o];rfl,Zh⟩
theorem Dg {b:ch} {a:ax} (c:b.data.toList=a):b=ai a:=lN (Array.toList_inj.1 (by rw[c,cE]))
theorem kv (b:ax) (a:b3) (e f:ax) (d:a8) (g:h4 b [a]=(e,f,d)) (m:b.length<=2000000) (c:af) (i:dp c):
  aC 48 #[aE (ai b),aE (aN #[a])] c (aL #[aE (ai e),aE (ai f),aw d]):=by
 obtain⟨j,h⟩:=i.mx;refine(Tryz.strings_Cut (ai b) ⟨#[a]⟩ j c (by rw[bs];omega) h).mono ?_;rintro l k ⟨rfl,n,rfl⟩;rw[cE,show (aN #[a]).data.toList=[a] from I,g];exact⟨I,qB bA⟩
theorem uL (b:b3) (a:ax) (c:af) (r:a.length<=1048576) (l:dp c):
  aY prog 14 #[aE (ai a),aE (aN #[b])] c λ h f=>∃d i,h=aV (aq c.heap.size d d) /\ cb f c.heap.size (aq c.heap.size d d) i /\ i=(bo b a).map ai /\ ap c f:=by
 obtain⟨o,k⟩:=l.mx;refine(Tryz.strings_Split (ai a) ⟨#[b]⟩ o c (by rw[bs];omega) k (bL 1)).mono ?_;rintro h f ⟨rfl,rfl⟩;have g:=Lib.splitB_all ⟨#[b]⟩ (bL 1) 0 (iv (ai a) ⟨#[b]⟩) (ai a) I;have hcut:=AZ b (ai a);rw[cE] at hcut;have q:iv (ai a) ⟨#[b]⟩+1<=1048577:=by
  have j:=kD b a;rw[<- hcut,ec,g] at j;omega
 have m:Lib.splitB ⟨#[b]⟩ 0 (iv (ai a) ⟨#[b]⟩) (ai a)=(bo b a).map ai:=by
  rw[<- hcut,List.map_map];have:∀e:aU ch,e=e.map (ai ∘ λ p=>p.data.toList):= λ e=>by
   induction e with
   | nil=>rfl
   | cons t s n=>rw[List.map_cons,<- n];congr 1
  exact this _
 refine⟨_,Lib.splitB ⟨#[b]⟩ 0 (iv (ai a) ⟨#[b]⟩) (ai a),I,?_,m,az c _⟩;have:=fF (base:=c.heap.size) (e:=9) (size:=1) c (((Lib.splitB ⟨#[b]⟩ 0 (iv (ai a) ⟨#[b]⟩) (ai a)).map Value.string).toArray) (iv (ai a) ⟨#[b]⟩+1) aZ (by unfold maxLen;omega) (by simp[g]);simpa [cb,g] using this
theorem Bw (a:F) (c: -1000000000<=a) (d:a<=1000000000) (b:af):
  aC 54 #[aE (ai (Lib.itoa a))] b (aL #[M a,.nilIface]) :=
 kE (ai (Lib.itoa a)) a (by rw[cE];exact oL a c d) (by rw[bs];have:=Lib.itoa_length_le a E E;omega) b
theorem EK (g:F) (a:ac) (t:af) (S:aI g a=ae) (ZH:dp t):
  aY prog 50 #[aE (ai (bd g a))] t λ i W=>(∃Zn,i=aV (aL #[ba #[M g,Zn],aw ae]) /\ av W t.heap.size Zn a) /\ ap t W:=by
 obtain⟨Z5,Z6,Y8,Zx,_⟩:=cv S;have YD:1<=g /\ g<=4:=by rcases cG.1 Z5 with ZT | ZT | ZT | ZT<;>omega
 have Y1:=b8 Z5;have ZI:=ho Z5;have Zl:=ab Zx;have ZW:=ab (hJ g a);have ZY:=ab (Kk S);have ZA:=ab (Bv S);obtain⟨q,P⟩:∃q,bQ a a.length=q:=⟨_,I⟩;have V:U (∀ZU∈q,0<=ZU /\ ZU<(a.length:F)):=by rw[<- P];exact λ ZU Y3=>mm Y3
 have Zg:U (dM a=q.map (di a)):=by show dM a=_;unfold dM;rw[P]
 have ZX:U (i8 a q a.length q.length=a):=by have:=CS a;rw[P] at this;exact this
 obtain⟨X,Z9⟩:∃X,q.length=X:=⟨_,I⟩;have B:=ab Z9;obtain⟨k,ZQ⟩:∃k,a.length=k:=⟨_,I⟩;have Zj:=ab ZQ;rw[ZQ] at Y8 Z6 V ZX;rw[Z9] at ZX;rw[<- Z6] at ZI Y1;have Zi:U (k=aH g):=Z6;have YM:X<=16:=by rw[<- Z9,<- P];have:=oM a a.length;omega
 obtain⟨H,ZS⟩:∃H,Lib.join (dM a) [44]=H:=⟨_,I⟩;rw[ZS] at ZY ZA;have YN:H.length<=220:=by
  have Y9:=ZW.o;have Y7:bd g a=Lib.itoa g++58::H:=by unfold bd;rw[S,ZS];rfl
  rw[Y7,dm,jG] at Y9;omega
 obtain⟨Zb,ZP⟩:∃Zc,bd g a=Zc:=⟨_,I⟩;have Zh:=ab ZP;rw[ZP] at ZW ZY ⊢;clear S Zx P Z9 ZQ Z6 ZS ZP;go_enter func50,ntmps50;go_wp2_with fail;refine(kv Zb 58 _ _ _ ZY.o (by have:=ZW.o;omega) _ (ZH.below aD)).mono ?_;rintro i YU ⟨rfl,ZO⟩;obtain⟨c,d,e,f⟩:=cj (t.heap.size) ZO ar;have Y5:ap t YU:=bJ ZO;clear ZO;go_wp2_with fail;refine(Bw g E E _).mono ?_;rintro i Zm ⟨rfl,C⟩;replace e:=aB C c e;replace f:=aB C d f;replace c:=ag C c;replace d:=ag C d;have Y4:=au Y5 C;have YW:t.heap.size<Zm.heap.size:=b6 c;clear C;go_wp2_with (first | (go_at_call 139;refine(fj _ _).mono ?_;rintro i W ⟨rfl,rfl⟩) | (at_make;refine e6 rfl _ _ rfl k _ _ rfl rfl ZI ZI E ?_;intro T ZK D YV;(have Z2:=ag D c);(have ZZ:=ag D d);(have ZD:=aB D c e);(have ZC:=aB D d f)));have Zy:=au Y4 D;obtain⟨o,r⟩:∃o,Zm.heap.size=o:=⟨_,I⟩;rw[r] at ZK YV YW ⊢;clear D r c d e f;have YX:=ZH.below Zy;refine(uL 44 H _ E (YX.below aD)).mono ?_;rintro i ZE ⟨G,YS,rfl,ZJ,Z4,K⟩;rw[ZA.o,Zg.o,List.map_map] at Z4;have Q:=aS K T.heap.size 0 (M g);have R:=aS K T.heap.size 1 (aq o k k);have p:ap T ZE:=bJ K;have e:=aB p Z2 ZD;have f:=aB p ZZ ZC;have c:=ag p Z2;have d:=ag p ZZ;have YY:=ZK.below p;have Z1:=au Zy p;have YB:=p.size;obtain⟨ZV,ZR⟩:∃Zd,T.heap.size=Zd:=⟨_,I⟩;have YI:ZV<ZE.heap.size:=by have:=K.size;simp at this;omega
 obtain⟨Y,ZM⟩:∃Y,(T.alloc (al #[M g,aq o k k] 29)).heap.size=Y:=⟨_,I⟩;rw[ZM] at ZJ ⊢;have YK:ZV<Y:=by rw[<- ZM,<- ZR];simp
 rw[ZR] at Q R ⊢;have YJ:o<ZV:=E;have Y2:G=X:=by rw[ZJ.at.1,Z4,ec,B.o]
 subst Y2;have Ze:=ab Z4;clear K p ZK Z2 ZZ ZD ZC ZM Z4 ZR;go_wp2;go_loopw [50] (λ ZF wr=>∃b:J,b<=G /\ ZF=M b /\ av wr o (aq o k k) (i8 a q k b) /\ ZE.grownBy wr (Z o)) (λ ZF _=>G-(intOf ZF).toNat)
 case atStart=>exact⟨0,E,I,YY,hI _ _⟩
 case round =>
  obtain⟨b,YG,rfl,A,r⟩:=hrel;refine sE ?_;intro L w s;have Zr:=ZH.below L;by_cases Z0:b<G
  ·have YF:(0:F)<=(b:F):=E;have YE:(b:F)<(G:F):=E;refine zo ?_;intro j z N v;have Zs:=ZJ.grown r (by intro i;injection i with i;omega);have Zo:YS[b]? =Z (ai (di a (j:F))):=by
    rw[Ze.o,jE,fV z,<- v,cK _ _ z];rfl
   have YL: wr.cell? (ad Y b)=Z (aE (ai (di a (j:F)))):=by have:=Zs.at.2.2.2.2 b _ Zo;simpa using this
   have ZB:U (i8 a q k (b+1)=(i8 a q k b).set j (O a j)):=by rw[U,qK,v,cI]
   rw[v] at N;have ZL:j<k:=E;have Zu:j<16:=E;have ZG:=Zl.o j (by rw[Zj.o];exact ZL);have Zz:U (h4 (di a (j:F)) [32]=(cd j,Lib.itoa (O a j),ae)):=LY (xs:=a) (a:=(j:F)) E;have YC:(di a (j:F)).length<=12:=by
    have Y6:=nF ⟨j,Zu⟩;have YP:=lp ZG.1 ZG.2;unfold di;simp only[cI] at Y6 ⊢;exact sc
   have YH:bi 0 ((aH g:F)-1) (j:F)=ae:=bM.2 (by have:=Zi.o;omega);obtain⟨ZN,Zw,_⟩:=A.cellAt ZL;generalize di a (j:F)=Za at *;obtain⟨Z3,Zp⟩:∃Z3,O a j=Z3:=⟨_,I⟩;rw[Zp] at ZB ZG Zz;clear v z Zo Zp;go_wp2_with fail;refine(kv Za 32 _ _ _ Zz.o E _ Zr).mono ?_;rintro i YT ⟨rfl,l⟩;replace w:=ag l w;replace s:=ag l s;go_wp2_with fail;refine(GV j _ Zu).mono ?_;rintro i YA ⟨rfl,Z8⟩;replace w:=ag Z8 w;replace s:=ag Z8 s;have u:=au l Z8;go_wp2_with fail;refine(Bw Z3 E E _).mono ?_;rintro i Yz ⟨rfl,Z7⟩;replace w:=ag Z7 w;replace s:=ag Z7 s;replace u:=au u Z7;have Zt:=A.below u;replace Zw:=aB u ZN Zw;replace ZN:=ag u ZN;obtain⟨Yy,Zq,YZ,Zv⟩:=dC Zt ZL Z3;have Zk:=ab (eO (eO r (iC u (Z o))) Zv);have Zf:=ab Zq;clear Zq Zv Zt A l Z8 Z7 u r Zs;go_wp2_with (first | (go_at_call 140;refine(fh g j _ Z5).mono ?_;rintro i W ⟨rfl,rfl⟩));rw[Zf.o];go_roundw
   case rel=>exact⟨b+1,E,by go_num,by rw[ZB.o];exact YZ,Zk.o⟩
   case measure=>simp[intOf];omega
  ·obtain rfl:b=G:=E;refine sZ ?_;intro x y m n;rw[ZX.o] at A;clear r c d e f Q R;go_wp2_with fail;refine(ma g _ _ _ a _ A.view Zr).mono ?_;rw[Zh.o];rintro i YT ⟨rfl,l⟩;replace w:=ag l w;replace s:=ag l s;have YR:=aB l m x;have YQ:=aB l n y;have c:=ag l m;have d:=ag l n;have YO:=au L l;have Y0:=A.below l;clear l m n x y A;go_wp2;refine aK (v:=aL #[ba #[M g,aq o k k],aw ae]) (by simp[aJ,results50,go_sem,c,d]) I ⟨⟨_,I,((Y0.setBelow (a:=(ad t.heap.size 0)) (by simp;omega) _).setBelow (a:=(ad t.heap.size 1)) (by simp;omega) _).mono E⟩,?_⟩;exact aD
structure gT where
 s:F
 xs:ac
 t:F
 ys:ac
 a:F
 g:ay
structure dT (w:af) (D:J) (d:gT):Prop where
 lt:D<w.heap.size
 c0: w.cell? (ad D 0)=Z (M d.s)
 c2: w.cell? (ad D 2)=Z (M d.t)
 c4: w.cell? (ad D 4)=Z (M d.a)
 f0: w.frozen? (ad D 0)=ak
 f1: w.frozen? (ad D 1)=ak
 f2: w.frozen? (ad D 2)=ak
 f3: w.frozen? (ad D 3)=ak
 f4: w.frozen? (ad D 4)=ak
 m:∃a n c,w.cell? (ad D 1)=Z (aa a n c) /\ av w 0 (aa a n c) d.xs /\ (aa a n c).ownBlock≠Z D
 n:∃a n c,w.cell? (ad D 3)=Z (aa a n c) /\ av w 0 (aa a n c) d.ys /\ (aa a n c).ownBlock≠Z D
 c5: w.cell? (ad D 5)=Z d.g
 f5: w.frozen? (ad D 5)=ak
theorem dT.below {g w':af} {c:J} {n:gT} (a:dT g c n) (f:ap g w'):dT w' c n:=by
 have d:∀b,w'.cell? ⟨c,b,aj⟩= g.cell? ⟨c,b,aj⟩:= λ b=>f.cell (p:=⟨c,b,aj⟩) a.lt
 have e:∀b,w'.frozen? ⟨c,b,aj⟩= g.frozen? ⟨c,b,aj⟩:= λ b=>f.frozen (p:=⟨c,b,aj⟩) a.lt
 refine⟨cm a.lt f.size,(d 0).trans a.c0,(d 2).trans a.c2,(d 4).trans a.c4,(e 0).trans a.f0,(e 1).trans a.f1,(e 2).trans a.f2,(e 3).trans a.f3,(e 4).trans a.f4,?_,?_,(d 5).trans a.c5,(e 5).trans a.f5⟩
 ·obtain⟨h,m,i,j,k,l⟩:=a.m;exact⟨h,m,i,(d 1).trans j,k.below f,l⟩
 ·obtain⟨h,m,i,j,k,l⟩:=a.n;exact⟨h,m,i,(d 3).trans j,k.below f,l⟩
theorem dT.putM {h:af} {b:J} {c:gT} (a:dT h b c) (l:F) (n:ac) (d:aG) (f e:J) (t:av h 0 (aa d f e) n) (i:(aa d f e).ownBlock≠Z b):
  dT ((h.setCell (ad b 0) (M l)).setCell (ad b 1) (aa d f e)) b ⟨l,n,c.t,c.ys,c.a,c.g⟩:=by
 obtain⟨y,C,z,s,A,B⟩:=a.m;obtain⟨o,x,p,v,w,j⟩:=a.n;have k:∀{m:ay},m.ownBlock≠Z b->∀g,m.ownBlock=Z g->g≠b:= λ u g q r=>u (by rw[q,r])
 refine⟨by simp;exact a.lt,?_,?_,?_,by simp[a.f0],by simp[a.f1],by simp[a.f2],by simp[a.f3],by simp[a.f4],⟨d,f,e,?_,t.put2 (k i),i⟩,⟨o,x,p,?_,w.put2 (k j),j⟩,(c3 _ _ _ _ ar).trans ((c3 _ _ _ _ ar).trans a.c5),by simp[a.f5]⟩
 ·exact(c3 _ _ _ _ ar).trans (fZ _ _ _ a.c0)
 ·exact(c3 _ _ _ _ ar).trans ((c3 _ _ _ _ ar).trans a.c2)
 ·exact(c3 _ _ _ _ ar).trans ((c3 _ _ _ _ ar).trans a.c4)
 ·exact fZ _ _ _ ((c3 _ _ _ _ ar).trans s)
 ·exact(c3 _ _ _ _ ar).trans ((c3 _ _ _ _ ar).trans v)
theorem dT.putN {j:af} {b:J} {g:gT} (a:dT j b g) (l:F) (s:ac) (e:aG) (i f:J) (k:av j 0 (aa e i f) s) (n:(aa e i f).ownBlock≠Z b):
  dT ((j.setCell (ad b 2) (M l)).setCell (ad b 3) (aa e i f)) b ⟨g.s,g.xs,l,s,g.a,g.g⟩:=by
 obtain⟨t,A,u,w,x,m⟩:=a.m;obtain⟨B,G,C,z,D,E⟩:=a.n;have q:∀{d:ay},d.ownBlock≠Z b->∀c,d.ownBlock=Z c->c≠b:= λ y c h v=>y (by rw[h,v])
 have r:∀{d:ay} {p:ac},av j 0 d p->(∀c,d.ownBlock=Z c->c≠b)->av ((j.setCell (ad b 2) (M l)).setCell (ad b 3) (aa e i f)) 0 d p:= λ k o =>
  (k.setOther (a:=(ad b 2)) (λ h=>o _ h I) _).setOther (a:=(ad b 3)) (λ h=>o _ h I) _
 refine⟨by simp;exact a.lt,?_,?_,?_,by simp[a.f0],by simp[a.f1],by simp[a.f2],by simp[a.f3],by simp[a.f4],⟨t,A,u,?_,r x (q m),m⟩,⟨e,i,f,?_,r k (q n),n⟩,(c3 _ _ _ _ ar).trans ((c3 _ _ _ _ ar).trans a.c5),by simp[a.f5]⟩
 ·exact(c3 _ _ _ _ ar).trans ((c3 _ _ _ _ ar).trans a.c0)
 ·exact(c3 _ _ _ _ ar).trans (fZ _ _ _ a.c2)
 ·exact(c3 _ _ _ _ ar).trans ((c3 _ _ _ _ ar).trans a.c4)
 ·exact(c3 _ _ _ _ ar).trans ((c3 _ _ _ _ ar).trans w)
 ·exact fZ _ _ _ ((c3 _ _ _ _ ar).trans z)
theorem aA.below_D {a:J} {b e c:af} (d:ap b e) (g:aA a (a+1) e c) (f:b.heap.size<=a):ap b c:=aA.below d d.size g f
theorem cb.span {j h:J} {l d:af} {e a k f:J} {m:aU ch} (c:cb l e (aq a k f) m) (u:aA j h l d) (t:a<j \/ h<=a):cb d e (aq a k f) m:=by
 have s:=cb.block c a I;refine⟨c.1,?_⟩;rcases c.2 with r | ⟨n,p,q,i,o,g,v⟩
 ·exact bj r
 ·refine aP ⟨n,p,q,i,o,?_,v⟩;injection i with b w x
  injection b with b;injection b with b
  rw[<- b] at g ⊢;rw[u.block a s.2 t];exact g
def gW (a:bc):ax:=if a.ok then bd a.size a.parts else [110,111]
def kK (a:gT) (b:bc):gT:=if b.ok then ⟨b.size,b.parts,a.t,a.ys,a.a,a.g⟩ else a
theorem I8 (m e:af) (b:J) (c:gT) (a:bc) (g:aG) (j S:J) (C:dp m) (N:m.heap.size<=b) (w:ap m e) (d:dT e b c) (q:av e 0 (aa g j S) a.parts) (t:(aa g j S).ownBlock≠Z b):
  aY prog 121 #[br b,am a.size g j S,aw a.ok] e λ k r=>k=aV (aE (ai (gW a))) /\ dT r b (kK c a) /\ aA b (b+1) e r:=by
 cases l:a.ok
 ·have o:U (gW a=[110,111]):=by show gW a=_;unfold gW;rw[l];rfl
  have n:U (kK c a=c):=by show kK c a=_;unfold kK;rw[l];rfl
  rw[o.o,n.o];go_enter func121,ntmps121;go_wp2;go_ret;exact⟨I,d.below (az _ _),aA.of_below (az _ _)⟩
 ·have o:U (gW a=bd a.size a.parts):=by show gW a=_;unfold gW;rw[l];rfl
  have n:U (kK c a=⟨a.size,a.parts,c.t,c.ys,c.a,c.g⟩):=by show kK c a=_;unfold kK;rw[l];rfl
  rw[o.o,n.o];obtain⟨E,Q,F,L,_,_⟩:=d.m;have K:=d.c0;have G:=d.f0;have H:=d.f1;have O:=d.lt;obtain⟨f,i⟩:∃D,(e.setCell (ad b 0) (M a.size)).setCell (ad b 1) (aa g j S)=D:=⟨_,I⟩;have z:av f 0 (aa g j S) a.parts:=by rw[<- i];exact q.put2 (λ P k v=>t (by rw[k,v]))
  have y:dT f b ⟨a.size,a.parts,c.t,c.ys,c.a,c.g⟩:=by rw[<- i];exact d.putM a.size a.parts g j S q t
  have s:ap m f:=by rw[<- i];exact aD
  have B:aA b (b+1) e f:=by rw[<- i];exact(aA.set (by show b<=b /\ b<b+1;omega)).trans (aA.set (by show b<=b /\ b<b+1;omega))
  have u:=ab i;clear i w q d;go_enter func121,ntmps121;go_wp2_with fail;rw[u.o];refine(ma a.size _ _ _ a.parts _ (z.view.below (az _ _)) (C.below (s.trans ((az f _).mono (s.size))))).mono ?_;rintro k R ⟨rfl,p⟩;have x:=(y.below (az f _)).below p;have A:=(B.trans (aA.of_below (az f _))).trans (aA.of_below p);clear p;go_wp2;go_ret;exact⟨I,x,A⟩
def DF (i:ax) (f:gT) (h:ax) (e:gT):Prop :=
 ∀(c b:af) (a:J),dp c->c.heap.size<=a->ap c b->dT b a f ->
  aY prog 49 #[br a,aE (ai i)] b λ g d=>g=aV (aE (ai h)) /\ dT d a e /\ aA a (a+1) b d
def pi (a:F) (b:ac):ax:=Lib.join ((co a b).map (bd a)) [10]
theorem ug {C:aU (ac)} (a:F) (f:C≠[]):Lib.join (C.map (bd a)) [10]++[10]=eL (C.map (bd a)):=by
 induction C with
 | nil=>exact bC I f
 | cons c h g =>
  cases h with
  | nil=>rw[List.map_cons,List.map_nil,Lib.join_one];rfl
  | cons d b =>
   have e:Lib.join ((c::d::b).map (bd a)) [10]=bd a c++([10]++Lib.join ((d::b).map (bd a)) [10]):=by
    rw[List.map_cons,List.map_cons,Lib.join_cons,Lib.join_cons];simp[Lib.joinTail,lM]
   rw[e,lM,lM,g ar];rfl
theorem qH (a:F) (d:aU (ac)):(eL (d.map (bd a))).length<=221*d.length:=by
 induction d with
 | nil=>simp[eL]
 | cons c b h =>
  have g:=hJ a c
  have e:eL ((c::b).map (bd a))=bd a c++10::eL (b.map (bd a)):=rfl
  have f:(c::b).length=b.length+1:=rfl
  rw[e,dm,jG,f,Nat.mul_add]
  omega
theorem FY (ZN g:af) (R:J) (c:gT) (Zw:dp ZN) (ZC:ap ZN g) (N:dT g R c) (ZZ:ci c.s c.xs=ae):
  aC 244 #[br R] g (aE (ai (pi c.s c.xs))):=by
 have ZM:U (ai [10]=aN #[10]):=ab I;obtain⟨ZL,Zs,ZK,ZG,ZY,Y7⟩:=N.m;have ZH:=N.c0;have Zu:=Zw.below ZC;have YZ:U (1<=(co c.s c.xs).length /\ (co c.s c.xs).length<=24):=⟨Ao ZZ,qx _ _⟩;have D:U (pi c.s c.xs=Lib.join ((co c.s c.xs).map (bd c.s)) [10]):=rfl;have t:=ab (qH c.s (co c.s c.xs));have C:U (Lib.join ((co c.s c.xs).map (bd c.s)) [10]++[10]=eL ((co c.s c.xs).map (bd c.s))):=ug c.s (by intro i;have:=YZ.o.1;rw[i] at this;simp at this);have s:U (∀j,ap g j->aY prog 314 #[am c.s ZL Zs ZK] j λ i Q=>(∃ZO,i=aV ZO /\ da Q j.heap.size ZO (co c.s c.xs).length (λ _=>c.s) (aO (co c.s c.xs))) /\ ap j Q):= λ j p=>z9 c.s _ _ _ c.xs j (ZY.view.below p)
 obtain⟨d,ZW⟩:∃d,c.s=d:=⟨_,I⟩;rw[ZW] at ZH YZ D t C s ⊢;obtain⟨a,X⟩:∃a,co d c.xs=a:=⟨_,I⟩;rw[X] at YZ D t C s;obtain⟨k,K⟩:∃k,a.length=k:=⟨_,I⟩;rw[K] at YZ t s;have G:=ab K;clear ZZ ZW X K N ZY;go_enter func244,ntmps244;go_wp2_with fail;obtain⟨A,m⟩:∃Zr:af,g.alloc (al #[] 9)=Zr:=⟨_,I⟩;rw[m];have L:ap g A:=by rw[<- m];exact az _ _
 have ZQ:cb A g.heap.size (aq g.heap.size 0 0) []:=by rw[<- m];exact cb.lit _
 have Zt:g.heap.size<A.heap.size:=by rw[<- m];simp
 clear m;refine(s.o A L).mono ?_;rintro i B ⟨⟨Y1,rfl,y⟩,w⟩;obtain⟨Zo,Zj,rfl,v⟩:=y.form;clear v;have W:=au L w;have ZP:=ZQ.below w;have Y6:=w.size;obtain⟨f,ZD⟩:∃f,g.heap.size=f:=⟨_,I⟩;replace y:=y.mono (base':=f+1) E;rw[ZD] at ZP Zt ⊢;clear w ZQ L;go_wp2;go_loopw [3,5,13] (λ Zq Y2 O wr=>∃(b l u:J),b<=k /\ O=M b /\ Zq=aq l b u /\ cb wr f (aq l b u) ((a.take b).map λ e=>ai (bd d e)) /\ aA f (f+1) B wr /\ (l=f \/ B.heap.size<=l)) (λ _ _ O _=>k-(intOf O).toNat)
 case atStart=>exact⟨0,f,0,E,I,I,ZP,aA.refl _ _ _,bj I⟩
 case round =>
  obtain⟨b,l,u,Za,rfl,rfl,z,q,Zb⟩:=hrel;have V:ap g wr:=aA.below W W.size q E;have Y4:=q.size;have Zv:=Zu.below V;by_cases Z2:b<k
  ·have Y9:(0:F)<=(b:F):=E;have Y8:(b:F)<(k:F):=E;have Z0:=y.span q aZ;obtain⟨Zn,Zi,H,v⟩:=Z0.form;injection H with H _ ZI
   subst H ZI;obtain⟨Zl,Zp,Y3,Zk,ZJ,_,Zf,Ze,Zd,Z5⟩:=v.at bA Z2;subst ZJ;have n:b<a.length:=by rw[G.o];exact Z2
   have Z9:U ((a.take (b+1)).map (λ e=>ai (bd d e))=((a.take b).map λ e=>ai (bd d e))++[ai (bd d (aO a b))]):=by
    rw[U,kO,fV n,g7];congr 2;show [ai (bd d a[b])]=_;exact yc
   obtain⟨o,Y⟩:∃o,aO a b=o:=⟨_,I⟩;rw[Y] at Z5 Z9;have Zy:((a.take b).map λ e=>ai (bd d e)).length=b:=by rw[ec,List.length_take];omega
   have Zg:=YZ.o.2;clear n Y Z0 v;go_wp2_with fail;refine(ma d _ _ _ o _ (Z5.below aD) (Zv.below aD)).mono ?_;rintro i P ⟨rfl,YY⟩;have r:ap wr P:=bJ YY;have ZX:=z.below r;have Y5:=r.size;go_wp2_with (at_builtin;refine qj I _ _ I f _ _ b Zy a6 (ZX.below (az P _)) _ _ (ai (bd d o)) a6 ar E (by simp;omega) ?_;intro x ZT j ZR Z6 Z7);have ZV:aA f (f+1) B (P.alloc (al #[aE (ai (bd d o))] 9)):=(q.trans (aA.of_below r)).trans (aA.of_below (az _ _));have ZU:=ab (ZV.grown2 Z6 (λ Zm i=>by have:=dD i;omega));have ZS:x=f \/ B.heap.size<=x:=by
    rcases Z7 with p | p
    ·have:=dD p;omega
    ·simp at p;omega
   clear Z6 z ZX q ZV YY r Z7;exact xq
  ·obtain rfl:b=k:=E;have T:a.take b=a:=by rw[<- G.o];exact List.take_length
   rw[T] at z;obtain⟨Zx,Zz,Zc,ZA,Z8⟩:=z.at;have m:((b:F)==0)=ak:=by have:=YZ.o;rw[dx];omega
   have S:U (Lib.join ((a.map λ e=>ai (bd d e)).map (·.data.toList)) (ai [10]).data.toList=Lib.join (a.map (bd d)) [10]):=by
    rw[U,cE,List.map_map];congr 1
   have Z3:(Lib.join ((a.map λ e=>ai (bd d e)).map (·.data.toList)) (ai [10]).data.toList).length<=140737488355328:=by
    have ZG:=t.o;have Zh:=YZ.o;have ZF:=be List.length C.o;rw[S.o];rw[dm] at ZF;omega
   have Z1:(a.map λ e=>ai (bd d e)).length=b:=by rw[ec,G.o]
   have Z4:=Tryz.strings_Join l 0 u (a.map λ e=>ai (bd d e)) (ai [10]) wr Z8 ZA (by have:=YZ.o;omega) E Z3;rw[Z1,S.o,ZM.o] at Z4;clear T Z3 Zx Z1 Z8 Zz;go_wp2_with fail;refine Z4.mono ?_;rintro i Y0 ⟨rfl,ZB⟩;have ZE:=au V ZB;go_wp2;go_ret;exact⟨by rw[D.o];rfl,ZE⟩
theorem GS:ai [101,120,99,104,97,110,103,101]=aN #[101,120,99,104,97,110,103,101]:=rfl
theorem IG (a:gT):DF [101,120,99,104,97,110,103,101] a (bd a.t a.ys) ⟨a.t,a.ys,a.s,a.xs,a.a,a.g⟩:=by
 intro X k b N D F c;rw[GS];obtain⟨d,i,f,A,K,r⟩:=c.m;obtain⟨e,j,g,C,L,H⟩:=c.n;have z:=c.c0;have B:=c.c2;have v:=c.f0;have w:=c.f1;have x:=c.f2;have y:=c.f3;have q:=c.putM a.t a.ys e j g L H;have s:av ((k.setCell (ad b 0) (M a.t)).setCell (ad b 1) (aa e j g)) 0 (aa d i f) a.xs:=K.put2 (λ T p u=>r (by rw[p,u]));have Y:=q.putN a.s a.xs d i f s r;have m:aA b (b+1) k ((((k.setCell (ad b 0) (M a.t)).setCell (ad b 1) (aa e j g)).setCell (ad b 2) (M a.s)).setCell (ad b 3) (aa d i f)) :=
  (((aA.set E).trans (aA.set E)).trans (aA.set E)).trans (aA.set E)
 have l:=aA.below_D F m D;obtain⟨Q,n⟩:∃O,(((k.setCell (ad b 0) (M a.t)).setCell (ad b 1) (aa e j g)).setCell (ad b 2) (M a.s)).setCell (ad b 3) (aa d i f)=O:=⟨_,I⟩;rw[n] at Y m l;have t:=ab n;clear n q s;go_enter func49,ntmps49;go_wp2_with fail;go_big_region;rw[t.o];obtain⟨R,W,S,V,J,_⟩:=Y.m;have U:=Y.c0;clear z A B C v w x y;go_wp2_with fail;refine(ma a.t _ _ _ a.ys _ (J.view.below aD) (N.below (l.trans (Below.mono aD l.size)))).mono ?_;rintro p P ⟨rfl,G⟩;have o:ap Q P:=bJ G;go_wp2;go_ret;exact⟨I,Y.below o,m.trans (aA.of_below o)⟩
end Go.Proofs.YtkjnhlpccgjfhaaGreatDoor
