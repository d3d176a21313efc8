/- A part of the proof: lemmas (my texts, shortened by a program of mine). -/
import Derived.Lib.ItoaLen
import Derived.Lib.ItoaMem
import Derived.Lib.Join
import Derived.Laws.IdiomStrings
import Derived.Lib.AppendIntMem
import Derived.Lib.SplitLaws
import Derived.Lib.AtoiTie
import Derived.Lib.AtoiAllCases
import Derived.Lib.AtoiErrMem
import Derived.Test.YtkjnhlpccgjfhaaGreatDoorC03
import Derived.Test.YtkjnhlpccgjfhaaGreatDoorC21
set_option linter.all false
set_option maxRecDepth 100000
set_option maxHeartbeats 4000000
namespace Go.Proofs.YtkjnhlpccgjfhaaGreatDoor
open Go.RowKit
open Go.Proofs.Tryz
open Bool renaming false->ak,true->ae
open _root_.ByteArray renaming ext->lN,mk->aN,size->eX,size_append->cZ
open Go renaming Calls->aY,Oper->bD,Value->ay,World->af,bodyPost_ret->aK,results->aJ
open Go.Ending renaming returned->aV
open Go.Lib renaming countB->iv,index->gA,toList_data->mG
open Go.Obj renaming cells->al
open Go.Value renaming bool->aw,slice->aa,string->aE,tuple->aL
open Go.World renaming block_lt_of_cell?->fX,ownsRow_lit->fF
open Go.World.ownsRow renaming cells->iN,lt->fs
open List renaming append_assoc->lM,cons_append->lO,drop_eq_getElem_cons->mH,getElem?_eq_getElem->fV,getElem?_map->jE,length_map->ec,map_append->g7,mem_cons_of_mem->kN,take_add_one->kO,take_of_length_le->jF
open Nat renaming lt_or_ge->hX
open Ne renaming symm->eA
open Option renaming map_some->mI,none->aj,some->Z
open Option.some renaming inj->iO,injEq->nV
open Or renaming inl->bj,inr->aP
open UInt8 renaming ofNat->it,toNat_ofNat'->mL
open _root_ renaming Array->bg,Bool->a8,ByteArray->ch,Int->F,List->aU,Nat->J,UInt8->b3,absurd->bC,beq_eq_false_iff_ne->dx,beq_iff_eq->cR,congrArg->be,if_neg->aF,if_pos->a7,rfl->I
variable {p q:Prop}
def ai (a:ax):ch:=⟨a.toArray⟩
theorem dd (a b:ax):ai a++ai b=ai (a++b):=by
 apply lN;simp[ai]
theorem bs (a:ax):(ai a).size=a.length:=by simp[ai,eX]
theorem cE (a:ax):(ai a).data.toList=a:=by simp[ai]
def eI (b:ac) (a:J):ax:=Lib.join ((b.take a).map Lib.itoa) [32]
def b2 (a:ac):ax:=if a.length=0 then [45] else eI a a.length
theorem Ch (c:F):0<(Lib.itoa c).length:=by
 have b:∀a,0<(Lib.decDigits a).length:=by
  intro a;rw[Lib.decDigits];split<;>simp
 unfold Lib.itoa;split
 ·simp
 ·exact b _
theorem rg (a:ac):eI a 0=[]:=by simp[eI,Lib.join_nil]
theorem up (a:aU (ax)) (c:ax) (d:a≠[]) (b:ax):Lib.join (a++[c]) b=Lib.join a b++b++c:=by
 cases a with
 | nil=>exact bC I d
 | cons f e =>
  rw[lO,Lib.join_cons,Lib.join_cons]
  simp[Lib.joinTail,lM]
theorem Ci (b:ac) (a:J) (c:a<b.length):b.take (a+1)=b.take a++[O b a]:=by
 rw[kO,cK _ _ c];simp[c]
theorem JK (a:ac):(a.map λ b=>ai (Lib.itoa b)).map (·.data.toList)=a.map Lib.itoa:=by
 induction a with
 | nil=>rfl
 | cons b d c=>simp only[List.map_cons,c,cE]
theorem uI (b:ac) (a:J) (c:a<b.length):eI b (a+1)=if a=0 then Lib.itoa (O b a) else eI b a++[32]++Lib.itoa (O b a):=by
 have d:b.take (a+1)=b.take a++[O b a]:=by
  rw[kO,cK _ _ c];simp[c]
 unfold eI;rw[d,g7];split
 ·next e=>subst e;simp[Lib.join_one]
 ·next e=>exact up _ _ (by simp;exact⟨e,λ d=>by rw[d] at c;simp at c⟩) _
theorem rx (b:ac) (c:∀a,a<b.length-> -9223372036854775808<=O b a /\ O b a<=9223372036854775807):∀a,a<=b.length->(eI b a).length<=22*a
 | 0,_=>by simp[rg]
 | a+1,d=>by
  have f:=rx b c a E;have e:=Lib.itoa_length_le (O b a) (c a E).1 (c a E).2;rw[uI _ _ E];split
  ·omega
  ·simp;omega
theorem Mz (d:ac) (a:J) (f:0<a) (g:a<=d.length):eI d a≠[]:=by
 obtain⟨c,rfl⟩:∃c,a=c+1:=⟨a-1,E⟩;rw[uI _ _ E];intro b;have e:=Ch (O d c);split at b
 ·rw[b] at e;simp at e
 ·simp at b
theorem LO (a:J) (c:9<a) (b:ax):Lib.decDigits a++b=Lib.decDigits (a/10)++(it (48+a%10)::b):=by
 rw[Lib.decDigits,dif_neg E];simp
theorem LP (a:J) (c:a<=9) (b:ax):Lib.decDigits a++b=it (48+a)::b:=by
 rw[Lib.decDigits,dif_pos E];simp
theorem jp (a:F) (b:0<=a):Lib.itoa a=Lib.decDigits a.toNat:=by unfold Lib.itoa;rw[aF E]
theorem lq (a:F) (b:a<0):Lib.itoa a=45::Lib.decDigits (-a).toNat:=by
 unfold Lib.itoa;rw[a7 b,show a.natAbs=(-a).toNat from E]
theorem LQ:Lib.itoa (-9223372036854775808)=[45,57,50,50,51,51,55,50,48,51,54,56,53,52,55,55,53,56,48,56]:=cS
theorem Dm (b:af) (a:F) (f:0<=a) (g:a<256):
  (convert 24 9 (aq b.heap.size 1 1)).run prog (b.alloc (al #[.int .u8 a] 5))=.ok (aE (ai [it a.toNat])) (b.alloc (al #[.int .u8 a] 5)):=by
 refine run_convert_bytes_back (b.alloc (al #[.int .u8 a] 5)) 24 9 5 (ad b.heap.size 0) 1 [it a.toNat] underlying24 underlying5 underlying9 (λ e d=>?_);obtain rfl:e=0:=by simpa using d
 have c:((ad b.heap.size 0):Addr).add 0=(ad b.heap.size 0):=rfl;rw[c];have:((it a.toNat).toNat:F)=a:=by
  simp[mL];omega
 simp[World.cell?_alloc_new,this];omega
theorem BA (c:F) (j:0<=c) (k:c<=9223372036854775807) (l:af):
  aC 64 #[M c] l (aE (ai (Lib.itoa c))):=by
 have i:=ab (jp c j);go_enter func64,ntmps64;go_wp2;go_loopw [0,3] (λ g q wr=>ap l wr /\ ∃(a:F) (b:ax),g=M a /\ q=aE (ai b) /\ 0<=a /\ a<=9223372036854775807 /\ Lib.decDigits a.toNat++b=Lib.decDigits c.toNat) (λ g _ _=>(intOf g).toNat)
 case atStart=>exact⟨Below.refl _ _,c,[],I,I,j,k,ar⟩
 case round =>
  obtain⟨d,a,b,rfl,rfl,t,u,f⟩:=hrel;have r:b.length<=21:=by
   have m:=be List.length f;have n:=Lib.itoa_length_le c E k;rw[i.o] at n;simp at m;omega
  have v:=ab f;clear f;by_cases s:a>9
  ·have o:=Dm wr (48+a%10) E E;have p:¬9223372036854775807<(ai [it (48+a%10).toNat]).size +(ai b).size:=by rw[bs,bs];simp;omega
   have e:=ab (LO a.toNat E b);go_wp2;go_roundw
   case rel=>exact⟨d.alloc d.size _,a/10,it (48+a%10).toNat::b,by go_num,by rw[dd];rfl,E,E,by rw[<- v.o,e.o,show (48+a%10).toNat=48+a.toNat%10 from E,show (a/10).toNat=a.toNat/10 from E]⟩
   case measure=>simp[intOf];omega
  ·have o:=Dm wr (48+a) E E;have p:¬9223372036854775807<(ai [it (48+a).toNat]).size +(ai b).size:=by rw[bs,bs];simp;omega
   have e:=ab (LP a.toNat E b);go_wp2;go_ret;refine⟨?_,d.alloc d.size _⟩;rw[dd,i.o,<- v.o,e.o,show (48+a).toNat=48+a.toNat from E];rfl
theorem qt (a:F) (i: -9223372036854775808<=a) (e:a<=9223372036854775807) (c:af):
  aC 64 #[M a] c (aE (ai (Lib.itoa a))):=by
 by_cases g:0<=a
 ·exact BA a g e c
 by_cases j:a< -9223372036854775807
 ·obtain rfl:a= -9223372036854775808:=E;have b:=ab LQ;go_enter func64,ntmps64;go_wp2;go_ret;refine⟨?_,Below.refl _ _⟩;rw[b.o];rfl
 ·have b:=ab (lq a E);have d:=ab (jp (-a) E);have k:¬9223372036854775807<(aN #[45]).size +(ai (Lib.itoa (-a))).size:=by
   have:=Lib.itoa_length_le (-a) E E;rw[bs];simp[eX];omega
  go_enter func64,ntmps64;go_wp2_with (go_at_call 64;refine(BA (-a) E E _).mono ?_;rintro m l ⟨rfl,f⟩);go_ret;refine⟨?_,f⟩;rw[b.o,d.o];rfl
theorem Cj:(prog.info? 9).map (λ a=>(a.zero,a.size,a.bytes))=Z (Z (aE ByteArray.empty),1,16):=ah
def cb (d:af) (b:J) (c:ay) (a:aU ch):Prop:=d.ownsRow b 9 1 c a.length (a.map Value.string)
theorem cb.below {f w':af} {c:J} {e:ay} {g:aU ch} (b:cb f c e g) (k:ap f w'):cb w' c e g:=by
 have n:=fs b;refine⟨b.1,?_⟩;rcases b.2 with j | ⟨a,h,i,d,l,m,o⟩
 ·exact bj j
 ·exact aP ⟨a,h,i,d,l,by rw[k.block a (n a (by rw[d];rfl)).2];exact m,o⟩
theorem cb.lit (a:af):cb (a.alloc (al #[] 9)) a.heap.size (aq a.heap.size 0 0) [] :=
 fF a #[] 0 aZ (by unfold maxLen;omega) I
theorem cb.block {d:af} {b:J} {c:ay} {f:aU ch} (e:cb d b c f):∀a,c.ownBlock=Z a->b<=a /\ a<d.heap.size:=fs e
theorem cb.at {h:af} {i a n f:J} {e:aU ch} (g:cb h i (aq a n f) e):n=e.length /\ n<=f /\ i<=a /\ a<h.heap.size /\ ∀(b:J) d,e[b]? =Z d-> h.cell? (ad a (0+b))=Z (aE d):=by
 have k:=cb.block g a I;have l:n=e.length /\ n<=f:=by
  rcases g.2 with ⟨m,_⟩ | ⟨t,s,u,r,_,_,x,w,_⟩
  ·simp at m
  ·injection r with v c o;subst c o;exact⟨I,E⟩
 refine⟨l.1,l.2,k.1,k.2,λ b d q=>?_⟩;have j:=iN g (g:=a) I b (aE d) (by rw[jE,q];rfl);have p:((ad a 0):Addr).add b=(ad a (0+b)):=by unfold Addr.add;split<;>simp_all
 rw[p] at j;exact j
theorem oA {c:af} {u:bg bD} {rest:aU bD} {k:bD} {f:Act} {s:Exit->Act->af->Prop} (z:k.guard=aj) (n q:Operand)
  (C:k.op=.call {callee:=.builtin .append,args:=#[n,q],argTypes:=#[34,34]})
  (g:J) (l:ay) (e:aU ch) (j:J) (B:e.length=j) (F:f.eval n=l) (D:cb c g l e)
  (m:Addr) (t:J) (p:ch) (G:f.eval q=aa (Z m) 1 t) (o: c.cell? m=Z (aE p))
  (P:j<1000000000) (y:g<=c.heap.size)
  (w:∀i h d,cb d g (aq i (j+1) h) (e++[p])->c.grownBy d l.ownBlock->wpList prog u s rest (f.put k.dst (aq i (j+1) h)) d):
  wpList prog u s (k::rest) f c:=by
 obtain⟨M,A,H,K,L⟩:=info_parts Cj;subst B;refine wpList_plain z λ _ x=>wp_append_lies c n q 34 C g 9 M (aE ByteArray.empty) 1 16 underlying34 A H K L I aX l e.length (e.map Value.string) F D m 1 t [aE p] G I ?_ ?_ aX (by unfold maxLen;omega) E y _ I λ i h d N O Q R=>x _ _ (w i h d ?_ O)
 ·intro b v a;exact mN
 ·intro v r;simp at r;subst r;rfl
 ·simpa [cb] using N
def hC (a:af):Prop:=Lib.TabIs prog a "internal/strconv.uint64pow10" .u64 Lib.pow10Tab
theorem hC.below {a w':af} (b:hC a) (c:ap a w'):hC w':=Lib.tabBelow_of_tabIs b _ c
theorem kC (a:F) (c: -9223372036854775808<=a) (d:a<=9223372036854775807) (b:af) (f:hC b):
  aC 55 #[M a] b (aE (ai (Lib.itoa a))) :=
 (Tryz.strconv_Itoa a c d b f).mono λ k j ⟨e,h,i,g⟩=>⟨e,by subst g;exact Lib.below_grow _ _ aZ h i⟩
def h5 (b:ac):Prop:=∀a,a<b.length-> -9223372036854775808<=O b a /\ O b a<=9223372036854775807
theorem kr (b:ax) (a:a8) (c:b.isEmpty=a):(ai b).toList.isEmpty=a:=by rw[mG,cE,c]
theorem qk (q:aG) (c s:J) (b:ac) (n:af) (l:an n q c b) (r:h5 b) (L:c<=2000000):
  aC 35 #[aa q c s] n (aE (ai (b2 b))):=by
 have G:=l.cap;have d:=l.len;have B:=ab d;have o:=ab r;go_enter func35,ntmps35;go_wp2;go_loopw [3,4] (λ z m wr=>ap n wr /\ ∃a:J,a<=c /\ m=M a /\ z=aE (ai (eI b a))) (λ _ m _=>c-(intOf m).toNat)
 case atStart=>exact⟨Below.refl _ _,0,E,I,by rw[rg];rfl⟩
 case round =>
  obtain⟨e,a,u,rfl,rfl⟩:=hrel;have N:(eI b a).length<=22*a:=rx b o.o a (by rw[d];exact u);by_cases w:a<c
  ·obtain⟨C,Q,rfl,F,D,H⟩:=l.at e w;have g:=o.o a E;have i:=ab (uI b a E);have K:=Lib.itoa_length_le _ g.1 g.2;clear d r;by_cases f:a=0
   ·have y:¬9223372036854775807<(ai (eI b a)).size +(ai (Lib.itoa (O b a))).size:=by rw[bs,bs];omega
    have p:U (ai (eI b (a+1))=ai (eI b a)++ai (Lib.itoa (O b a))):=by
     show _=_;rw[i.o,a7 f,f,rg,dd];rfl
    have v:¬0<a:=E;exact wO
   ·have y:¬9223372036854775807<(ai (eI b a)).size +(aN #[32]).size:=by rw[bs];simp[eX];omega
    have P:¬9223372036854775807<(ai (eI b a)++aN #[32]).size +(ai (Lib.itoa (O b a))).size:=by rw[bs,cZ,bs];simp[eX];omega
    have p:U (ai (eI b (a+1))=ai (eI b a)++aN #[32]++ai (Lib.itoa (O b a))):=by
     show _=_;rw[i.o,aF f,<- dd,<- dd];rfl
    have v:0<a:=E;exact wO
  ·obtain rfl:a=c:=E;by_cases k:a=0
   ·have T:=ab (kr (eI b a) ae (by rw[k,rg];rfl));have x:=T.o;have j:U (b2 b=[45]):=by show _=_;unfold b2;rw[a7 E]
    clear k d;exact pC
   ·have T:=ab (kr (eI b a) ak (by have:=Mz b a E E;cases t:eI b a with | nil=>exact bC t this | cons _ _=>rfl));have x:=T.o;have j:U (b2 b=eI b a):=by show _=_;unfold b2;rw[aF E,d]
    clear k d;exact pC
theorem nc (v:aG) (d P:J) (a:ac) (e:af) (r:an e v d a) (o:h5 a) (ZZ:d<=2000000) (W:hC e):
  aC 53 #[aa v d P] e (aE (ai (b2 a))):=by
 have N:U (ai [32]=aN #[32]):=ab I;have Z4:=r.cap;have ZU:=r.len;have Z7:=ab ZU;have t:=ab o;by_cases V:d=0
 ·have l:U (b2 a=[45]):=by show _=_;unfold b2;rw[a7 E]
  subst V;go_enter func53,ntmps53;go_wp2;go_ret;exact⟨by rw[l.o];rfl,Below.refl _ _⟩
 have l:U (b2 a=eI a d):=by show _=_;unfold b2;rw[aF E,ZU]
 have ZY:((d:F)==0)=ak:=by simp;omega
 go_enter func53,ntmps53;go_wp2;obtain⟨ZW,q⟩:∃ZT:af,ZT=e.alloc (al #[] 9):=⟨_,I⟩;rw[<- q];go_loopw [3,5,12] (λ Z9 ZV s wr=>ap e wr /\ ∃b:J,b<=d /\ s=M b /\ ∃j i,Z9=aq j b i /\ cb wr e.heap.size (aq j b i) ((a.take b).map λ c=>ai (Lib.itoa c))) (λ _ _ s _=>d-(intOf s).toNat)
 case atStart=>exact⟨by rw[q];exact az e _,0,E,I,_,_,I,by rw[q];exact cb.lit e⟩
 case round =>
  obtain⟨g,b,Z1,rfl,j,i,rfl,k⟩:=hrel;have x:=g.size;by_cases T:b<d
  ·obtain⟨w,ZX,rfl,Z5,Z6,Z3⟩:=r.at g T;have C:=t.o b E;have X:=W.below g;have S:((a.take b).map λ c=>ai (Lib.itoa c)).length=b:=by simp;omega
   have L:U ((a.take (b+1)).map (λ c=>ai (Lib.itoa c))=((a.take b).map λ c=>ai (Lib.itoa c))++[ai (Lib.itoa (O a b))]):=by
    show _=_;rw[Ci _ _ E,g7];rfl
   clear ZU o;go_wp2_with (first | (go_at_call 55;refine(kC _ C.1 C.2 _ X).mono ?_;rintro m D ⟨rfl,f⟩) | (at_builtin;refine oA rfl _ _ rfl e.heap.size _ _ b S a6 ((k.below f).below (az D _)) _ _ (ai (Lib.itoa (O a b))) a6 ar E (by have:=f.size;simp;omega) ?_;intro H G Z8 K R));go_roundw
   case rel=>exact⟨cV ((g.trans (f.mono x)).alloc (by have:=f.size;omega) _) (by have:=f.size;simp;omega) R (λ w m=>(k.block w m).1),b+1,E,by go_num,H,G,I,by rw[L.o];exact K⟩
   case measure=>simp[intOf];omega
  ·have p:b=d:=E;have n:a.take b=a:=by rw[p,<- ZU];exact List.take_length
   rw[n] at k;obtain⟨Y,Z0,Z2,Q,y⟩:=k.at;have u:U (Lib.join ((a.map λ c=>ai (Lib.itoa c)).map (·.data.toList)) (ai [32]).data.toList=eI a d):=by
    show _=_;rw[JK,cE];unfold eI;rw[<- p,n]
   have A:(Lib.join ((a.map λ c=>ai (Lib.itoa c)).map (·.data.toList)) (ai [32]).data.toList).length<=140737488355328:=by
    rw[u.o];have:=rx a t.o d E;omega
   have B:(a.map λ c=>ai (Lib.itoa c)).length=b:=by simp;omega
   have z:=Tryz.strings_Join j 0 i (a.map λ c=>ai (Lib.itoa c)) (ai [32]) wr y Q E E A;rw[B,u.o,N.o] at z;clear o ZU n A p Y B y;go_wp2_with (go_at_call 147;refine z.mono ?_;rintro m D ⟨rfl,f⟩);go_ret;exact⟨by rw[l.o];rfl,g.trans (f.mono x)⟩
def bo (b:b3):ax->aU (ax)
 | []=>[[]]
 | a::c=>if a=b then []::bo b c else match bo b c with
  | []=>[[a]]
  | d::e=>(a::d)::e
theorem oV (b:b3) (a:ax):0<(bo b a).length:=by
 cases a with
 | nil=>simp[bo]
 | cons c d =>
  unfold bo;split
  ·simp
  split<;>simp
theorem j2 (a:b3):∀(b c:ax),a∉b->bo a (b++a::c)=b::bo a c
 | [],c,_=>by simp[bo]
 | f::b,c,e=>by
  have g:f≠a:= λ d=>e (by simp[d])
  have h:=j2 a b c (λ d=>e (kN _ d));rw[lO,bo,aF g,h]
theorem ky (b:b3):∀(a:ax),b∉a->bo b a=[a]
 | [],_=>rfl
 | e::a,d=>by
  have f:e≠b:= λ c=>d (by simp[c])
  rw[bo,aF f,ky b a (λ c=>d (kN _ c))]
theorem nE (a:b3):∀f,Lib.join (bo a f) [a]=f
 | []=>by simp[bo,Lib.join_one]
 | h::c=>by
  have b:=nE a c;have e:=oV a c;unfold bo;cases d:bo a c with
  | nil=>rw[d] at e;simp at e
  | cons i j =>
   rw[d] at b
   rw[Lib.join_cons] at b
   split
   ·next g=>subst g;rw[Lib.join_cons];simp[Lib.joinTail];simpa [Lib.joinTail] using b
   ·rw[Lib.join_cons,lO,b]
theorem uJ (a:b3):∀d:aU (ax),d≠[]->(∀b∈d,a∉b)->bo a (Lib.join d [a])=d
 | [],c,_=>bC I c
 | [b],_,c=>by rw[Lib.join_one];exact ky a b (c b ar)
 | b::f::e,_,c=>by
  have g:=uJ a (f::e) ar (λ j i=>c j (kN _ i));rw[Lib.join_cons] at g ⊢;have h:b++Lib.joinTail [a] (f::e)=b++a::(f++Lib.joinTail [a] e):=by simp[Lib.joinTail]
  rw[h,j2 a b _ (c b ar),g]
theorem AY (b:b3):∀a:ax,Lib.splitK [b] 0 (Lib.count a [b]) a=bo b a
 | []=>by rw[Lib.count_one];rfl
 | c::a=>by
  have i:=AY b a;by_cases d:c=b
  ·subst d;rw[Lib.count_cons_eq,Nat.add_comm,Lib.splitK];have f:gA (c::a) [c]=0:=by rw[gA];simp[List.isPrefixOf]
   rw[f,aF aX,bo,a7 rfl];simp[i]
  ·have m:([b]:ax).isPrefixOf (c::a)=ak:=by simp[List.isPrefixOf,eA d]
   have f:gA (c::a) [b]=if gA a [b]== -1 then -1 else gA a [b]+1:=by rw[gA,m];simp
   rw[Lib.count_cons_ne c b a d,bo,aF d,<- i];cases g:Lib.count a [b] with
   | zero=>rfl
   | succ o =>
    by_cases h:gA a [b]= -1
    ·rw[Lib.count_miss h] at g;cases g
    ·have n:=Lib.index_ge a [b];obtain⟨e,l⟩:∃e:J,gA a [b]=e:=⟨(gA a [b]).toNat,E⟩;rw[Lib.splitK,Lib.splitK,f,aF (λ j=>h (beq_iff_eq.1 j)),l,aF (by rw[cR];omega),aF (by rw[cR];omega)];have k:((e:F)+1).toNat=e+1:=E;simp[k]
theorem AZ (a:b3) (b:ch):(Lib.splitB ⟨#[a]⟩ 0 (iv b ⟨#[a]⟩) b).map (·.data.toList)=bo a b.data.toList:=by
 rw[Lib.splitB_data];exact AY a b.data.toList
theorem nt (c:ch) (a b:J):(c.extract a b).data.toList=(c.data.toList.drop a).take (b-a):=by
 rw[Lib.extract_data]
theorem eE (a:ch):a.data.toList.length=a.size:=Array.length_toList
theorem jq (b:ch) (a:J) (c:a<b.size):b.data.toList[a]? =Z b[a]:=by
 rw[fV (by rw[eE];exact c)];rfl
theorem MA {c:ax} {b a:J} (g:c[b]? =Z 32) (i:a<=b) (h:(32:b3)∉(c.drop a).take (b-a)):bo 32 (c.drop a)=(c.drop a).take (b-a)::bo 32 (c.drop (b+1)):=by
 obtain⟨e,f⟩:=List.getElem?_eq_some_iff.1 g;have d:c.drop a=(c.drop a).take (b-a)++32::c.drop (b+1):=by
  exact wK
 conv=>lhs;rw[d]
 exact j2 32 _ _ h
theorem MB {b:ax} {a:J} (c:(32:b3)∉(b.drop a).take (b.length-a)):bo 32 (b.drop a)=[(b.drop a).take (b.length-a)]:=by
 have d:(b.drop a).take (b.length-a)=b.drop a:=jF ar;rw[d] at c ⊢;exact ky 32 _ c
theorem MC {d:ax} {b a:J} {e:b3} (g:d[b]? =Z e) (f:e≠32) (i:a<=b) (k:(32:b3)∉(d.drop a).take (b-a)):(32:b3)∉(d.drop a).take (b+1-a):=by
 exact ym
theorem tH (c:b3):∀(b:ax) (a:J),Lib.decFrom a (b++[c])=(Lib.decFrom a b).bind λ f=>(Lib.digitVal c).map λ d=>f*10+d
 | [],a=>by simp only[List.nil_append,Lib.decFrom,Option.bind_some];cases Lib.digitVal c<;>rfl
 | e::b,a=>by
  simp only[lO,Lib.decFrom];cases Lib.digitVal e with
  | none=>rfl
  | some d=>exact tH c b _
theorem AR (a:J) (b:a<10):Lib.digitVal (it (48+a))=Z a:=by
 have:(it (48+a)).toNat=48+a:=by simp[mL];omega
 unfold Lib.digitVal;rw[this,a7 E];congr 1;omega
theorem LR {b:b3} {a:J} (c:Lib.digitVal b=Z a):a<10 /\ b=it (48+a):=by
 obtain⟨d,e,f⟩:=Lib.digitVal_eq c;refine⟨E,?_⟩;apply UInt8.toNat_inj.1;simp[mL];omega
theorem oJ:∀a:J,Lib.decFrom 0 (Lib.decDigits a)=Z a:=by
 intro a;induction a using Nat.strongRecOn with
 | _ a c =>
  rw[Lib.decDigits]
  split
  ·next b=>simp only[Lib.decFrom,AR a b];simp
  ·next b=>rw[tH,c (a/10) E,AR _ E];simp;omega
theorem Aa:∀(a:ax) (c:J),a≠[]->(a.head? ≠Z 48 \/ a.length=1)->Lib.decFrom 0 a=Z c->Lib.decDigits c=a /\ (a.head? ≠Z 48->0<c):=by
 intro a;induction j:a.length generalizing a with
 | zero=>intro c e;exact bC (List.length_eq_zero_iff.1 j) e
 | succ s B =>
  intro c o x d
  obtain⟨b,l,rfl⟩:∃b l,a=b++[l]:=⟨a.dropLast,a.getLast o,(List.dropLast_concat_getLast o).symm⟩
  rw[tH] at d
  cases f:Lib.decFrom 0 b with
  | none=>rw[f] at d;cases d
  | some m =>
   rw[f] at d
   cases k:Lib.digitVal l with
   | none=>rw[k] at d;cases d
   | some n =>
    rw[k] at d
    obtain⟨w,h⟩:=LR k
    simp only[Option.bind_some,mI,nV] at d
    by_cases i:b=[]
    ·subst i;simp only[Lib.decFrom,nV] at f;subst f;have v:c=n:=E;subst v;rw[Lib.decDigits,dif_pos w,<- h];refine⟨I,λ r=>?_⟩;rcases Nat.eq_zero_or_pos c with g | g
     ·subst g;rw[h] at r;exact bC I r
     ·exact g
    ·have q:b.length=s:=by simp at j;exact j
     have C:1<=s:=by cases b with | nil=>exact bC I i | cons _ _=>simp at q;omega
     have p: b.head? ≠Z 48:=by
      rcases x with e | e
      ·rw[List.head?_append] at e;cases y: b.head? with
       | none=>simp
       | some F=>rw[y] at e;exact e
      ·simp at e;omega
     obtain⟨z,A⟩:=B b q m i (Or.inl p) f;have D:=A p;have t:c/10=m:=E;have u:c%10=n:=E;rw[Lib.decDigits,dif_neg E,t,u,z,<- h];exact⟨I,λ _=>E⟩
theorem lu:∀a:J,∃b,b<10 /\ (0<a->0<b) /\ (Lib.decDigits a).head?=Z (it (48+b)):=by
 intro a;induction a using Nat.strongRecOn with
 | _ a g =>
  rw[Lib.decDigits]
  split
  ·next c=>exact⟨a,c,λ c=>c,I⟩
  ·next c =>
   obtain⟨b,d,e,f⟩:=g (a/10) E;exact⟨b,d,λ _=>e E,by rw[List.head?_append,f];rfl⟩
theorem uU:∀a:J,∀b∈Lib.decDigits a,48<=b.toNat /\ b.toNat<=57:=by
 intro a;induction a using Nat.strongRecOn with
 | _ a h =>
  have g:∀c,c<10->(it (48+c)).toNat=48+c:= λ c i=>by simp[mL];omega
  rw[Lib.decDigits]
  split
  ·next f=>intro b e;simp only[List.mem_singleton] at e;subst e;rw[g a f];omega
  ·next f =>
   intro b e;rcases List.mem_append.1 e with d | d
   ·exact h (a/10) E b d
   ·simp only[List.mem_singleton] at d;subst d;rw[g _ E];omega
theorem o8:∀(b a:J),a<10^(b+1)->(Lib.decDigits a).length<=b+1
 | 0,a,c=>by rw[Lib.decDigits,dif_pos E];simp
 | b+1,a,c=>by
  rw[Lib.decDigits];split
  ·simp
  ·have:=o8 b (a/10) (by rw[Nat.pow_succ] at c;omega);simp;omega
theorem pa (b:J):Lib.decDigits b≠[]:=by
 obtain⟨d,_,_,a⟩:=lu b;intro c;rw[c] at a;cases a
def eV (neg:a8) (a:ax):Option F :=
 if a=[] \/ 17<a.length \/ (a.head? =Z 48 /\ (1<a.length \/ neg=ae)) then aj
 else (Lib.decFrom 0 a).map λ (b:J)=>if neg then -(b:F) else (b:F)
def cg (a:ax):Option F:=if a.head? =Z 45 then eV ae a.tail else eV ak a
theorem BB {b:ax} {j:F} (a:cg b=Z j):Lib.itoa j=b:=by
 unfold cg at a;split at a
 ·next i =>
  unfold eV at a;split at a
  ·cases a
  ·next c =>
   simp only[not_or,not_and] at c;cases e:Lib.decFrom 0 b.tail with
   | none=>rw[e] at a;cases a
   | some d =>
    rw[e] at a
    simp only[a7,mI,nV] at a
    have g: b.tail.head? ≠Z 48:= λ f=>(c.2.2 f).2 trivial
    obtain⟨h,l⟩:=Aa b.tail d c.1 (Or.inl g) e
    have o:=l g
    cases b with
    | nil=>cases i
    | cons m p =>
     simp only[List.head?_cons,nV] at i
     subst i
     subst a
     rw[lq _ E,show (- -(d:F)).toNat=d from E,h];rfl
 ·unfold eV at a;split at a
  ·cases a
  ·next c =>
   simp only[not_or,not_and] at c;cases e:Lib.decFrom 0 b with
   | none=>rw[e] at a;cases a
   | some d =>
    rw[e] at a
    simp only[mI,nV] at a
    have g: b.head? ≠Z 48 \/ b.length=1:=by
     by_cases f: b.head? =Z 48
     ·right;have:=(c.2.2 f).1;have n:=List.length_pos_iff.2 c.1;omega
     ·exact Or.inl f
    obtain⟨h,_⟩:=Aa b d c.1 g e
    have k:(d:F)=j:=by simpa using a
    subst k
    rw[jp _ E,show (d:F).toNat=d from E,h]
theorem Ck (neg:a8) (a:J) (k:a<10000000000000000) (o:neg=ae->0<a):eV neg (Lib.decDigits a)=Z (if neg then -(a:F) else a):=by
 obtain⟨b,e,f,g⟩:=lu a;have l:=o8 15 a E;exact xP
theorem nm (a:F) (h: -1000000000<=a) (d:a<=1000000000):cg (Lib.itoa a)=Z a:=by
 unfold cg;by_cases f:a<0
 ·rw[lq a f,a7 (show (45::Lib.decDigits (-a).toNat).head?=Z 45 from rfl),List.tail_cons,Ck ae _ E (λ _=>E)];simp;omega
 ·rw[jp a E];have e:(Lib.decDigits a.toNat).head? ≠Z 45:=by
   obtain⟨g,d,i,c⟩:=lu a.toNat;exact sw
  rw[aF e,Ck ak _ E (λ b=>by cases b)];simp;omega
theorem oL (a:F) (n: -1000000000<=a) (i:a<=1000000000):Lib.atoiAll (Lib.itoa a)=.ok a:=by
 by_cases k:a<0
 ·have j:=o8 9 (-a).toNat E;rw[lq a k,Lib.atoiAll_short _ (by simp;omega),Lib.atoi,a7 (show ((45:b3)==45)=ae from I)];unfold Lib.decNat;rw[aF (by have:=pa (-a).toNat;cases h:Lib.decDigits (-a).toNat with | nil=>exact bC h this | cons _ _=>simp),oJ];simp only[mI,Lib.NumEnd.ofOption];congr 1;omega
 ·have j:=o8 9 a.toNat E;obtain⟨g,i,o,d⟩:=lu a.toNat;rw[jp a E,Lib.atoiAll_short _ E];have f:=oJ a.toNat;cases e:Lib.decDigits a.toNat with
  | nil=>exact bC e (pa _)
  | cons b q =>
   rw[e] at d f
   simp only[List.head?_cons,nV] at d
   have p:b.toNat=48+g:=by rw[d];simp[mL];omega
   have m:¬(b==45)=ae:= λ c=>by have:=be UInt8.toNat (beq_iff_eq.1 c);simp at this;omega
   have l:¬(b==43)=ae:= λ c=>by have:=be UInt8.toNat (beq_iff_eq.1 c);simp at this;omega
   rw[Lib.atoi,aF m,aF l]
   unfold Lib.decNat
   rw[aF ar,f]
   simp only[mI,Lib.NumEnd.ofOption]
   congr 1;omega
theorem GR (b:F):(32:b3)∉Lib.itoa b:=by
 have c:∀d,(32:b3)∉Lib.decDigits d:= λ d a=>by have:=(uU d _ a).1;simp at this
 exact wI
def i7 (a:F):Option F:=if -1000000000<=a /\ a<=1000000000 then Z a else aj
def ea (a:ax):Option F:=(cg a).bind i7
def dB (a:ax):Option F:=match Lib.atoiAll a with
 | .ok v=>i7 v
 | _=>aj
def dK (a:ax->Option F) (c:aU (ax)):ac:=c.map λ b=>(a b).getD 0
def mD (a:ax->Option F) (c:aU (ax)):Prop:=∀b∈c,(a b).isSome=ae
theorem A0 {b c:F} (a:i7 b=Z c):c=b /\ -1000000000<=b /\ b<=1000000000:=by
 unfold i7 at a;split at a
 ·next d=>exact⟨(iO a).symm,d⟩
 ·cases a
theorem BC {d:ax} {b:F} (a:ea d=Z b):Lib.itoa b=d /\ -1000000000<=b /\ b<=1000000000:=by
 unfold ea at a;cases c:cg d with
 | none=>rw[c] at a;cases a
 | some f =>
  rw[c] at a
  obtain⟨rfl,e⟩:=A0 a
  exact⟨BB c,e⟩
theorem Cl {d:ax} {b:F} (a:dB d=Z b): -1000000000<=b /\ b<=1000000000:=by
 unfold dB at a;split at a
 ·next e _=>obtain⟨rfl,c⟩:=A0 a;exact c
 ·cases a
theorem tR {d:ax} {a:F} (f:ea d=Z a):dB d=Z a:=by
 obtain⟨e,b,c⟩:=BC f;unfold dB;rw[<- e,oL a b c];show i7 a=Z a;unfold i7;rw[a7 ⟨b,c⟩]
theorem Hd {a:F} (b: -1000000000<=a) (c:a<=1000000000):ea (Lib.itoa a)=Z a:=by
 unfold ea;rw[nm a b c];show i7 a=Z a;unfold i7;rw[a7 ⟨b,c⟩]
theorem Ke (a:aU (ax)) (c:mD ea a):(dK ea a).map Lib.itoa=a:=by
 unfold dK;rw[List.map_map];conv=>rhs;rw[<- List.map_id a]
 refine List.map_congr_left λ e d=>?_
 obtain⟨f,b⟩:=Option.isSome_iff_exists.1 (c e d);simp only[Function.comp,b,Option.getD_some,id];exact(BC b).1
theorem BD (a:aU (ax)) (e:mD ea a):dK dB a=dK ea a /\ mD dB a:=by
 refine⟨List.map_congr_left λ d c=>?_,λ d c=>?_⟩;all_goals obtain⟨f,b⟩:=Option.isSome_iff_exists.1 (e d c)
 ·rw[b,tR b]
 ·rw[tR b];rfl
theorem BE (a:ax):mD ea (bo 32 a)↔(mD dB (bo 32 a) /\ b2 (dK dB (bo 32 a))=a):=by
 have k:=oV 32 a;have j:∀d:ac,d≠[]->b2 d=Lib.join (d.map Lib.itoa) [32]:= λ d c=>by
  unfold b2 eI;rw[aF (by intro b;exact c (List.length_eq_zero_iff.1 b)),List.take_length]
 have e:∀f,dK f (bo 32 a)≠[]:= λ f b=>by
  have:=be List.length b;simp[dK] at this;rw[this] at k;simp at k
 constructor
 ·intro c;obtain⟨q,r⟩:=BD _ c;refine⟨r,?_⟩;rw[q,j _ (e ea),Ke _ c,nE]
 ·rintro⟨s,g⟩;rw[j _ (e dB)] at g;have h:=uJ 32 ((dK dB (bo 32 a)).map Lib.itoa) (by intro b;exact e dB (List.map_eq_nil_iff.1 b)) (λ x u=>by
   obtain⟨n,_,rfl⟩:=List.mem_map.1 u;exact GR n)
  rw[g] at h;intro w m;rw[h] at m;obtain⟨n,t,rfl⟩:=List.mem_map.1 m;obtain⟨p,o,rfl⟩:=List.mem_map.1 t;obtain⟨v,l⟩:=Option.isSome_iff_exists.1 (s p o);have i:=Cl l;rw[l,Option.getD_some,Hd i.1 i.2];rfl
def i9 (a:ax->Option F) (c:aU (ax)):a8:=c.all λ b=>(a b).isSome
theorem uq (a:ax->Option F) (b:aU (ax)):i9 a b=ae↔mD a b:=by
 unfold i9 mD;rw[List.all_eq_true]
theorem nI (d:b3):∀(b:ax),∀c∈bo d b,c.length<=b.length
 | [],c,a=>by simp[bo] at a;subst a;simp
 | i::b,c,a=>by
  have e:=nI d b;have g:=oV d b;rw[bo] at a;split at a
  ·rcases List.mem_cons.1 a with rfl | a
   ·simp
   ·have:=e c a;simp;omega
  ·cases f:bo d b with
   | nil=>rw[f] at g;simp at g
   | cons h j =>
    rw[f] at a e
    rcases List.mem_cons.1 a with rfl | a
    ·have:=e h ar;simp;omega
    ·have:=e c (by simp[a]);simp;omega
theorem kD (b:b3):∀(a:ax),(bo b a).length<=a.length+1
 | []=>by simp[bo]
 | f::a=>by
  have e:=kD b a;have d:=oV b a;rw[bo];split
  ·simp;omega
  ·cases c:bo b a with
   | nil=>rw[c] at d;simp at d
   | cons h g=>rw[c] at e;simp at e ⊢;omega
theorem o3 (b:ax->Option F) (a:aU (ax)):(dK b a).length=a.length:=by simp[dK]
theorem BG (a:ax->Option F) {c:aU (ax)} {b:J} {e:ax} {d:F} (f:c[b]? =Z e) (g:a e=Z d):dK a (c.take (b+1))=dK a (c.take b)++[d]:=by
 unfold dK;rw[kO,f,g7];simp[g]
theorem CQ {a:ax->Option F} {c:aU (ax)} {b:J} {d:ax} {h:F} (e:c[b]? =Z d) (g:a d=Z h) (f:i9 a (c.take b)=ae):i9 a (c.take (b+1))=ae:=by
 unfold i9 at *;rw[kO,e,List.all_append,f];simp[g]
theorem ND {b:ax->Option F} {c:aU (ax)} {f:J} {a:ax} (d:c[f]? =Z a) (e:b a=aj):i9 b c=ak:=by
 unfold i9;rw[List.all_eq_false];exact⟨a,List.mem_of_getElem? d,by simp[e]⟩
def bP (a:ax):Option (ac):=if i9 ea (bo 32 a)=ae /\ (bo 32 a).length<=16 then Z (dK ea (bo 32 a)) else aj
theorem ue {b:ax} {f:J} {c:ax} (d:(bo 32 b)[f]? =Z c) (e:ea c=aj):bP b=aj:=by
 unfold bP;rw[aF];rintro⟨a,_⟩;rw[ND d e] at a;cases a
theorem AS {a:ax} (b:16<(bo 32 a).length):bP a=aj:=by
 unfold bP;rw[aF];rintro⟨_,c⟩;omega
theorem AT {a:ax} (b:i9 ea (bo 32 a)=ae) (c:(bo 32 a).length<=16):bP a=Z (dK ea (bo 32 a)):=by
 unfold bP;rw[a7 ⟨b,c⟩]
theorem JL (b:ax):((bP b).getD []).length<=16:=by
 unfold bP;split
 ·next a=>simp[o3];exact a.2
 ·simp
theorem A1 {c:ax} {f:J} {a:ax} (d:(bo 32 c)[f]? =Z a) (b:dB a=aj):bP c=aj:=by
 refine ue d ?_;cases e:ea a with
 | none=>rfl
 | some g=>rw[tR e] at b;cases b
theorem IF {a:ax} (c:i9 dB (bo 32 a)=ae) (d:(bo 32 a).length<=16) (e:b2 (dK dB (bo 32 a))=a):bP a=Z (dK dB (bo 32 a)):=by
 have b:=(BE a).2 ⟨(uq _ _).1 c,e⟩;rw[AT ((uq _ _).2 b) d,(BD _ b).1]
theorem JM {a:ax} (c:b2 (dK dB (bo 32 a))≠a):bP a=aj:=by
 unfold bP;rw[aF];rintro⟨b,_⟩;exact c ((BE a).1 ((uq _ _).1 b)).2
theorem JN (b:aU (ax)):∀a,a<(dK dB b).length-> -9223372036854775808<=O (dK dB b) a /\ O (dK dB b) a<=9223372036854775807:=by
 intro a c;rw[cK _ _ c];have f:a<b.length:=by simpa [dK] using c
 have d:(dK dB b)[a]=(dB b[a]).getD 0:=by simp[dK]
 rw[d];cases e:dB b[a] with
 | none=>simp
 | some g=>have:=Cl e;simp;omega
theorem JO {a:ax} (b:cg a=aj):ea a=aj:=by unfold ea;rw[b];rfl
theorem JP {d:ax} {a:F} (c:cg d=Z a) (b:bi (-1000000000) 1000000000 a=ak):ea d=aj:=by
 unfold ea;exact xJ
theorem JQ {d:ax} {a:F} (c:cg d=Z a) (b:bi (-1000000000) 1000000000 a=ae):ea d=Z a:=by
 unfold ea;exact xO
theorem Kf {b:ax} (c:∀a,Lib.atoiAll b≠.ok a):dB b=aj:=by
 unfold dB;split
 ·next a d=>exact bC d (c a)
 ·rfl
theorem Kg {d:ax} {a:F} (c:Lib.atoiAll d=.ok a) (b:bi (-1000000000) 1000000000 a=ak):dB d=aj:=by
 unfold dB;exact xJ
theorem Kh {d:ax} {a:F} (c:Lib.atoiAll d=.ok a) (b:bi (-1000000000) 1000000000 a=ae):dB d=Z a:=by
 unfold dB;exact xO
theorem JR (a:ch) (S:af) (P:a.size<=2000000):
  aY prog 9 #[aE a,.int .u8 32] S λ j m=>∃i d y b,j=aV (aq i d y) /\ cb m S.heap.size (aq i d y) b /\ b.map (·.data.toList)=bo 32 a.data.toList /\ ap S m:=by
 go_enter func9,ntmps9;go_wp2;obtain⟨Q,w⟩:∃K:af,K=S.alloc (al #[] 9):=⟨_,I⟩;rw[<- w];go_loopw [5,6,7] (λ L D x wr=>ap S wr /\ ∃(c f d:J) (b:aU ch),x=M c /\ D=M f /\ (∃i n,L=aq i d n /\ cb wr S.heap.size (aq i d n) b) /\ d<=c /\ b.length=d /\
   U ((c<=a.size /\ f<=c /\ b.map (·.data.toList)++bo 32 (a.data.toList.drop f)=bo 32 a.data.toList /\ (32:b3)∉(a.data.toList.drop f).take (c-f)) \/ (c=a.size+1 /\ b.map (·.data.toList)=bo 32 a.data.toList))) (λ _ _ x _=>a.size+1-(intOf x).toNat)
 case atStart=>exact⟨by rw[w];exact az S _,0,0,0,[],I,I,⟨_,_,I,by rw[w];exact cb.lit S⟩,E,I,Or.inl ⟨E,E,I,ar⟩⟩
 case round =>
  obtain⟨g,c,f,d,b,rfl,rfl,⟨i,n,rfl,e⟩,O,k,l⟩:=hrel;have z:=g.size;by_cases N:c<=a.size
  ·obtain⟨_,A,hcut,C⟩:=l.o.resolve_right E;have s:=ab hcut;have t:=ab C;clear hcut C l;by_cases H:c=a.size
   ·subst H;go_wp2_with (at_builtin;refine oA I _ _ I S.heap.size _ _ d k a6 (e.below (az wr _)) _ _ (a.extract f a.size) a6 ar E (by simp;omega) ?_;intro q p m r v);go_roundw
    case rel=>exact⟨cV (g.alloc z _) (by simp;omega) v (λ u j=>(e.block u j).1),a.size+1,a.size+1,d+1,b++[a.extract f a.size],by go_num,by go_num,⟨q,p,I,r⟩,E,by simp[k],Or.inr ⟨I,by rw[g7,<- s.o,MB (by rw[eE];exact t.o),eE,<- nt];rfl⟩⟩
    case measure=>first | (simp[intOf];done) | (simp[intOf];omega)
   ·have B:c<a.size:=E;by_cases o:a[c]=32
    ·have G:((a[c].toNat:F)==32)=ae:=by rw[o];decide
     go_wp2_with (at_builtin;refine oA I _ _ I S.heap.size _ _ d k a6 (e.below (az wr _)) _ _ (a.extract f c) a6 ar E (by simp;omega) ?_;intro q p m r v);go_roundw
     case rel=>exact⟨cV (g.alloc z _) (by simp;omega) v (λ u j=>(e.block u j).1),c+1,c+1,d+1,b++[a.extract f c],by go_num,by go_num,⟨q,p,I,r⟩,E,by simp[k],Or.inl ⟨E,E,by rw[g7,<- s.o,MA (by rw[jq a c B,o]) A t.o,<- nt];simp,ar⟩⟩
     case measure=>first | (simp[intOf];done) | (simp[intOf];omega)
    ·have G:((a[c].toNat:F)==32)=ak:=by simp;intro j;apply o;apply UInt8.toNat_inj.1;simp;omega
     go_wp2;go_roundw
     case rel=>exact⟨g,c+1,f,d,b,by go_num,I,⟨i,n,I,e⟩,E,k,Or.inl ⟨E,E,s.o,MC (jq a c B) o A t.o⟩⟩
     case measure=>first | (simp[intOf];done) | (simp[intOf];omega)
  ·exact wE
theorem LS {a:ax} (b: a.head? =Z 45):cg a=eV ae a.tail:=by unfold cg;rw[a7 b]
theorem LU {a:ax} (b: a.head? ≠Z 45):cg a=eV ak a:=by unfold cg;rw[aF b]
theorem nD {neg:a8} {a:ax} (b:a=[] \/ 17<a.length \/ (a.head? =Z 48 /\ (1<a.length \/ neg=ae))):eV neg a=aj:=by unfold eV;rw[a7 b]
theorem BH {neg:a8} {a:ax} (c:¬(a=[] \/ 17<a.length \/ (a.head? =Z 48 /\ (1<a.length \/ neg=ae)))):eV neg a=(Lib.decFrom 0 a).map λ (b:J)=>if neg then -(b:F) else (b:F):=by unfold eV;rw[aF c]
theorem ur {a:ch} (b:a.size=0):a.data.toList=[]:=List.length_eq_zero_iff.1 (by rw[eE];exact b)
theorem nu {a:ch} (b:0<a.size): a.data.toList.head? =Z (a[0]'b):=by
 have:=jq a 0 b;rw[List.head?_eq_getElem?];exact this
theorem tl:∀(c:ax) (e d:J) (b:b3),c[d]? =Z b->Lib.digitVal b=aj->Lib.decFrom e c=aj
 | [],_,d,b,a,_=>by simp at a
 | g::c,e,0,b,a,f=>by
  simp at a;subst a;simp only[Lib.decFrom,f]
 | g::c,e,d+1,b,a,f=>by
  simp only[Lib.decFrom];cases Lib.digitVal g with
  | none=>rfl
  | some h=>exact tl c _ d b (by simpa using a) f
theorem zY:∀(b:ax) (a c:J),Lib.decFrom 0 (b.take a)=Z c->c<10^a:= λ b a c d=>by
 have:=Lib.decFrom_lt _ _ _ d;have e:(b.take a).length<=a:=by simp;omega
 have f:10^(b.take a).length<=10^a:=Nat.pow_le_pow_right aX e;omega
theorem Br {k:J} (a:k<=17):10^k<=100000000000000000:=Nat.pow_le_pow_right (n:=10) aX a
theorem qI (a:ch):(a.extract 1 a.size).data.toList=a.data.toList.tail:=by
 rw[nt,jF (by rw[List.length_drop,eE];omega),List.drop_one]
theorem uf (a:ch):(a.extract 1 a.size).size=a.size-1:=by
 rw[<- eE,qI,List.length_tail,eE]
theorem JS (d:ch) (v:af) (S:d.size<=2000000) (y:0<d.size) (u:d[0]=45):
  aY prog 45 #[aE d] v λ t w=>t=aV (aL #[M ((cg d.data.toList).getD 0),aw (cg d.data.toList).isSome]) /\ v=w:=by
 have x:U ((d.extract 1 d.size).size=d.size-1):=uf d;have i:U (cg d.data.toList=eV true (d.extract 1 d.size).data.toList):=by show _=_;rw[LS (by rw[nu y,u]),qI]
 have N:((d[0].toNat:F)==45)=true:=by rw[u];decide
 obtain⟨a,l⟩:∃a,a=d.extract 1 d.size:=⟨_,I⟩;have L:a.size<=2000000:=by rw[l,uf];omega
 rw[<- l] at x i;have T:d.extract 1 d.size=a:=l.symm;clear l;by_cases H:a.size=0
 ·have f:U (eV true a.data.toList=aj):=nD (Or.inl (ur H));exact mR
 have m:0<a.size:=E;have X:((a.size:F)==0)=ak:=by rw[dx];omega
 by_cases A:17<a.size
 ·have f:U (eV true a.data.toList=aj):=nD (Or.inr (Or.inl (by rw[eE];exact A)));exact mR
 have Y:decide (17<(a.size:F))=ak:=by simp;omega
 by_cases g:a[0]=48
 ·have f:U (eV true a.data.toList=aj):=nD (Or.inr (Or.inr ⟨by rw[nu m,g],Or.inr I⟩));have z:((a[0].toNat:F)==48)=true:=by rw[g];decide
  exact mR
 have f:U (eV true a.data.toList=(Lib.decFrom 0 a.data.toList).map λ (c:J)=>if (true:a8) then -(c:F) else (c:F)):=by
  refine BH ?_;rw[eE,nu m];rintro(k | k | ⟨k,K⟩)
  ·have:=be List.length k;rw[eE] at this;rw[this] at m;exact bC m aX
  ·omega
  ·exact g (iO k)
 have z:((a[0].toNat:F)==48)=ak:=by simp;intro t;apply g;apply UInt8.toNat_inj.1;simp;omega
 clear g;go_enter func45,ntmps45;go_wp2;go_loop [5,6] (λ c q=>∃(b r:J),b<=a.size /\ q=M b /\ c=M r /\ U (Lib.decFrom 0 (a.data.toList.take b)=Z r)) (λ _ q=>a.size-(intOf q).toNat)
 case atStart=>exact⟨0,0,E,I,I,I⟩
 case round =>
  obtain⟨b,c,Q,rfl,rfl,j⟩:=hrel;have D:=zY _ _ _ j.o;have G:=Br (k:=b) E;have R:c<100000000000000000:=E;clear D G;by_cases C:b<a.size
  ·have p:=ab (jq a b C);obtain⟨e,n⟩:∃e:F,e=(a[b].toNat:F):=⟨_,I⟩;have W:(a[b].toNat:F)=e:=n.symm;have V:0<=e /\ e<256:=by have:=(a[b]).toNat_lt;omega
   have o:=ab n;clear n;by_cases O:e<48
   ·exact vu
   by_cases P:57<e
   ·exact vu
   have s:U (Lib.decFrom 0 (a.data.toList.take (b+1))=Z (c*10+(e-48).toNat)):=by
    exact x4
   exact wx
  ·have B:b=a.size:=E;have Z9:U (Lib.decFrom 0 a.data.toList=Z c):=by show _=_;rw[<- j.o,jF (by rw[eE];omega)]
   clear B;go_wp2;refine aK (v:=aL #[M (-(c:F)),aw true]) (by simp[aJ,results45,go_sem]) I ⟨by rw[i.o,f.o,Z9.o];rfl,I⟩
theorem A2 (a:ch) (v:af) (L:a.size<=2000000) (t:∀d:0<a.size,a[0]≠45):
  aY prog 45 #[aE a] v λ k x=>k=aV (aL #[M ((cg a.data.toList).getD 0),aw (cg a.data.toList).isSome]) /\ v=x:=by
 have i:U (cg a.data.toList=eV false a.data.toList):=by
  show _=_;refine LU ?_;by_cases d:0<a.size
  ·rw[nu d];intro k;exact t d (iO k)
  ·rw[ur E];simp
 by_cases z:a.size=0
 ·have f:U (eV false a.data.toList=aj):=nD (Or.inl (ur z));exact mR
 have m:0<a.size:=E;have H:((a[0].toNat:F)==45)=false:=by simp;intro k;apply t m;apply UInt8.toNat_inj.1;simp;omega
 have O:((a.size:F)==0)=false:=by rw[dx];omega
 by_cases y:17<a.size
 ·have f:U (eV false a.data.toList=aj):=nD (Or.inr (Or.inl (by rw[eE];exact y)));exact mR
 have P:decide (17<(a.size:F))=false:=by simp;omega
 by_cases g:a[0]=48 /\ 1<a.size
 ·have f:U (eV false a.data.toList=aj):=nD (Or.inr (Or.inr ⟨by rw[nu m,g.1],Or.inl (by rw[eE];exact g.2)⟩));have u:((a[0].toNat:F)==48)=ae:=by rw[g.1];decide
  have K:=g.2;clear g;have A:decide (1<(a.size:F))=ae:=by simp;omega
  exact mR
 have f:U (eV false a.data.toList=(Lib.decFrom 0 a.data.toList).map λ (c:J)=>if (false:a8) then -(c:F) else (c:F)):=by
  refine BH ?_;rw[eE,nu m];rintro(d | d | ⟨d,l⟩)
  ·have:=be List.length d;rw[eE] at this;rw[this] at m;exact bC m aX
  ·omega
  ·rcases l with l | l
   ·exact g ⟨iO d,l⟩
   ·cases l
 by_cases n:a[0]=48
 ·have u:((a[0].toNat:F)==48)=ae:=by rw[n];decide
  have N:¬1<a.size:= λ d=>g ⟨n,d⟩
  have A:decide (1<(a.size:F))=false:=by simp;omega
  exact xw
 ·have u:((a[0].toNat:F)==48)=false:=by simp;intro k;apply n;apply UInt8.toNat_inj.1;simp;omega
  exact xw
theorem ku (a:ch) (b:af) (c:a.size<=2000000):
  aY prog 45 #[aE a] b λ g f=>g=aV (aL #[M ((cg a.data.toList).getD 0),aw (cg a.data.toList).isSome]) /\ b=f:=by
 by_cases d:0<a.size
 ·by_cases e:a[0]=45
  ·exact JS a b c d e
  ·exact A2 a b c (λ _=>e)
 ·exact A2 a b c (λ h=>bC h d)
theorem zN {u:bg bD} {rest:aU bD} {k:bD} {g:Act} {c:af} {r:Exit->Act->af->Prop} (B:k.guard=aj) (p q:Operand)
  (G:k.op=.call {callee:=.builtin .append,args:=#[p,q],argTypes:=#[27,27]})
  (h:J) (f:ay) (l:ac) (j:J) (D:l.length=j) (K:g.eval p=f) (H:av c h f l)
  (m:Addr) (s:J) (n:F) (L:g.eval q=aa (Z m) 1 s) (o: c.cell? m=Z (M n))
  (S:j<1000000000) (A:h<=c.heap.size)
  (v:∀d i e,av e h (aq d (j+1) i) (l++[n])->c.grownBy e f.ownBlock->(f.ownBlock=Z d \/ d=c.heap.size)->wpList prog u r rest (g.put k.dst (aq d (j+1) i)) e):
  wpList prog u r (k::rest) g c:=by
 obtain⟨Q,C,N,O,P⟩:=info_parts ig;subst D;refine wpList_plain B λ _ z=>wp_append_lies c p q 27 G h 3 Q (M 0) 1 8 underlying27 C N O P I aX f l.length _ K H m 1 s [M n] L I ?_ ?_ aX (by unfold maxLen;omega) E A _ I λ d i e w x y _=>z _ _ (v d i e ?_ x y)
 ·intro b R a;exact mN
 ·intro R t;simp at t;subst t;rfl
 ·simpa [av] using w
theorem pb (a:af):av (a.alloc (al #[] 3)) a.heap.size (aq a.heap.size 0 0) []:=fF a #[] 0 aZ (by unfold maxLen;omega) I
theorem cb.grown {k c:af} {d g i e:J} {j:Option J} {l:aU ch} (b:cb k d (aq g i e) l) (r:k.grownBy c j) (t:Z g≠j):cb c d (aq g i e) l:=by
 have s:=cb.block b g I;refine⟨b.1,?_⟩;rcases b.2 with q | ⟨m,o,p,h,n,f,u⟩
 ·exact bj q
 ·refine aP ⟨m,o,p,h,n,?_,u⟩;injection h with a v w
  injection a with a;injection a with a
  rw[<- a] at f ⊢;rw[r.block g s.2 t];exact f
def lK (a:Option (ac)) (c:J) (d:Ending) (e:af):Prop:=∃b,d=aV (aL #[b,aw a.isSome]) /\ av e c b (a.getD [])
theorem Aj (b:ch) (g:af) (ZE:b.size<=1048576):
  aY prog 104 #[aE b] g λ d ZA=>lK (bP b.data.toList) g.heap.size d ZA /\ ap g ZA:=by
 go_enter func104,ntmps104;go_wp2_with fail;obtain⟨x,A⟩:∃ZN:af,ZN=g.alloc (al #[] 3):=⟨_,I⟩;rw[<- A];have ZP:x.heap.size=g.heap.size+1:=by rw[A];simp
 have Z8:ap g x:=by rw[A];exact az g _
 have ZS:av x g.heap.size (aq g.heap.size 0 0) []:=by rw[A];exact pb g
 clear A;refine(JR b x E).mono ?_;rintro d ZC ⟨j,l,X,f,rfl,i,Q,Z9⟩;obtain⟨Z6,ZF,ZL,ZK,-⟩:=i.at;have ZH:l<=1048577:=by
  have n:=kD 32 b.data.toList;rw[<- Q,eE] at n;simp at n;omega
 have O:=ab Q;clear Q;have v:=ab Z6;clear Z6;have ZM:g.heap.size<j:=E;clear ZP;have ZR:=ZS.below Z9;have ZX:=Z8.trans (Z9.mono Z8.size);go_wp2;go_loopw [4,6,7,8,18] (λ ZO S _ _ _ wr=>ap g wr /\ ∃(a s C:J),a<=l /\ S=M a /\ ZO=aq s a C /\ av wr g.heap.size (aq s a C) (dK ea ((f.map (·.data.toList)).take a)) /\ cb wr x.heap.size (aq j l X) f /\ s≠j /\ U (i9 ea ((f.map (·.data.toList)).take a)=ae) /\ (0<a->l<=16)) (λ _ S _ _ _ _=>l-(intOf S).toNat)
 case atStart=>exact⟨ZX,0,g.heap.size,0,E,I,I,ZR,i,E,I,λ y=>bC y E⟩
 case round =>
  obtain⟨t,a,s,C,ZJ,rfl,rfl,B,i,ZV,L,ZY⟩:=hrel;have o:=t.size;have H:(dK ea ((f.map (·.data.toList)).take a)).length=a:=by rw[o3];have:=v.o;simp;omega
  by_cases ZI:a<l
  ·obtain⟨e,G⟩:∃e,f[a]? =Z e:=⟨f[a]'(by have:=v.o;omega),fV _⟩;refine zl ?_;intro Z4 q r;have ZD:e.size<=1048576:=by
    exact wS
   have V:=ab q;have W:=ab r;clear G q r;cases p:cg e.data.toList with
   | none =>
    have k:U (bP b.data.toList=aj):=ue W.o (JO p)
    have z:∀c,aY prog 45 #[aE e] c λ d ZA=>d=aV (aL #[M 0,aw ak]) /\ c=ZA:= λ c=>by
     have:=ku e c E;rw[p] at this;exact this
    have N:=ab p
    clear p
    go_wp2_with (go_at_call 45;refine(z _).mono ?_;rintro d c ⟨rfl,rfl⟩)
    refine aK (v:=aL #[aq wr.heap.size 0 0,aw ak]) (by simp[aJ,results104,go_sem]) I ⟨⟨_,by rw[k.o];rfl,by rw[k.o];exact(pb wr).mono o⟩,t.alloc o _⟩
   | some m =>
    have z:∀c,aY prog 45 #[aE e] c λ d ZA=>d=aV (aL #[M m,aw ae]) /\ c=ZA:= λ c=>by
     have:=ku e c E;rw[p] at this;exact this
    have N:=ab p;clear p
    cases u:bi (-1000000000) 1000000000 m with
    | false =>
     have k:U (bP b.data.toList=aj):=ue W.o (JP N.o u)
     have D:∀c,aY prog 206 #[M m] c λ d ZA=>d=aV (aw ak) /\ c=ZA:= λ c=>by
      have:=oQ m c;rw[u] at this;exact this
     clear u
     go_wp2_with (first | (go_at_call 45;refine(z _).mono ?_;rintro d c ⟨rfl,rfl⟩) | (go_at_call 206;refine(D _).mono ?_;rintro d c ⟨rfl,rfl⟩))
     refine aK (v:=aL #[aq wr.heap.size 0 0,aw ak]) (by simp[aJ,results104,go_sem]) I ⟨⟨_,by rw[k.o];rfl,by rw[k.o];exact(pb wr).mono o⟩,t.alloc o _⟩
    | true =>
     have D:∀c,aY prog 206 #[M m] c λ d ZA=>d=aV (aw ae) /\ c=ZA:= λ c=>by
      have:=oQ m c;rw[u] at this;exact this
     have T:U (ea e.data.toList=Z m):=JQ N.o u
     clear u
     by_cases ZG:16<l
     ·have k:U (bP b.data.toList=aj):=AS (by have n:=O.o;have w:=v.o;rw[<- n];simp;omega);go_wp2_with (first | (go_at_call 45;refine(z _).mono ?_;rintro d c ⟨rfl,rfl⟩) | (go_at_call 206;refine(D _).mono ?_;rintro d c ⟨rfl,rfl⟩));refine aK (v:=aL #[aq wr.heap.size 0 0,aw ak]) (by simp[aJ,results104,go_sem]) I ⟨⟨_,by rw[k.o];rfl,by rw[k.o];exact(pb wr).mono o⟩,t.alloc o _⟩
     ·have ZB:decide (16<(l:F))=ak:=by simp;omega
      go_wp2_with (first | (go_at_call 45;refine(z _).mono ?_;rintro d c ⟨rfl,rfl⟩) | (go_at_call 206;refine(D _).mono ?_;rintro d c ⟨rfl,rfl⟩) | (at_builtin;refine zN rfl _ _ rfl g.heap.size _ _ a H a6 (B.below (az wr _)) _ _ m a6 ar E (by simp;omega) ?_;intro K Z5 ZA Z3 R Z7));have Z2:=ab (cV (t.alloc o _) (by simp;omega) R (λ ZZ d=>(B.block ZZ d).1));have ZW:K≠j:=by
       rcases Z7 with y | y
       ·have w:Z s=Z K:=y;injection w with w;omega
       ·have:=i.at.2.2.2.1;simp at y;omega
      have ZQ:cb ZA x.heap.size (aq j l X) f:=(i.below (az wr _)).grown R (by intro d;injection d with d;exact ZV d.symm);have Z0:U (dK ea ((f.map (·.data.toList)).take (a+1))=dK ea ((f.map (·.data.toList)).take a)++[m]):=BG ea V.o T.o;have Z1:=ab (CQ V.o T.o L.o);clear R B Z7 i;go_roundw
      case rel=>exact⟨Z2.o,a+1,K,Z5,E,by go_num,I,by rw[Z0.o];exact Z3,ZQ,ZW,Z1.o,λ _=>E⟩
      case measure=>simp[intOf];omega
  ·have ZU:a=l:=E;have Y:(f.map (·.data.toList)).take a=bo 32 b.data.toList:=by
    exact vk
   have P:=L.o;rw[Y] at B P H;have ZT:=oV 32 b.data.toList;rw[o3] at H;have k:U (bP b.data.toList=Z (dK ea (bo 32 b.data.toList))):=AT P (by have:=ZY E;omega);clear ZU Y P H ZT L;go_wp2;refine aK (v:=aL #[aq s a C,aw ae]) (by simp[aJ,results104,go_sem]) I ⟨⟨_,by rw[k.o];rfl,by rw[k.o];exact B⟩,t⟩
structure dp (w:af):Prop where
 pow:hC w
 syn:∃tp p,w.var? prog "strconv.ErrSyntax" =Z #[.iface tp p]
 rng:∃tp p,w.var? prog "strconv.ErrRange" =Z #[.iface tp p]
 mx:∃m,w.cell? (ad 0 0)=Z (M m)
theorem Bt {b f:af} {e:String} {g:bg ay} (a: b.var? prog e=Z g) (i:ap b f): f.var? prog e=Z g:=by
 unfold World.var? at a ⊢;cases h:prog.globalNamed e with
 | none=>rw[h] at a;cases a
 | some d =>
  rw[h] at a
  simp only[Option.bind_some] at a ⊢
  have j:d<b.heap.size:=by
   rcases hX d b.heap.size with c | c
   ·exact c
   ·rw[Array.getElem?_eq_none c] at a;cases a
  rw[i.block d j];exact a
theorem dp.below {f w':af} (b:dp f) (c:ap f w'):dp w':=by
 refine⟨b.pow.below c,?_,?_,?_⟩
 ·obtain⟨e,d,a⟩:=b.syn;exact⟨e,d,Bt a c⟩
 ·obtain⟨e,d,a⟩:=b.rng;exact⟨e,d,Bt a c⟩
 ·obtain⟨g,a⟩:=b.mx;exact⟨g,by rw[c.cell (fX f _ a)];exact a⟩
theorem Ki (a:ch) (b:af) (m:a.size<=1048576) (j:dp b):
  aY prog 14 #[aE a,aE ⟨#[32]⟩] b λ f d=>∃c g,f=aV (aq b.heap.size c c) /\ cb d b.heap.size (aq b.heap.size c c) g /\ g.map (·.data.toList)=bo 32 a.data.toList /\ ap b d:=by
 obtain⟨k,i⟩:=j.mx;refine(Tryz.strings_Split a ⟨#[32]⟩ k b E i aX).mono ?_;rintro f d ⟨rfl,rfl⟩;have e:=Lib.splitB_all ⟨#[32]⟩ aX 0 (iv a ⟨#[32]⟩) a I;have hcut:=AZ 32 a;have l:iv a ⟨#[32]⟩+1<=1048577:=by
  have h:=kD 32 a.data.toList;rw[<- hcut,ec,e,eE] at h;omega
 refine⟨_,Lib.splitB ⟨#[32]⟩ 0 (iv a ⟨#[32]⟩) a,I,?_,hcut,az b _⟩;have:=fF (base:=b.heap.size) (e:=9) (size:=1) b (((Lib.splitB ⟨#[32]⟩ 0 (iv a ⟨#[32]⟩) a).map Value.string).toArray) (iv a ⟨#[32]⟩+1) aZ (by unfold maxLen;omega) (by simp[e]);simpa [cb,e] using this
theorem kE (a:ch) (b:F) (d:Lib.atoiAll a.data.toList=.ok b) (i:a.size<=1048576) (c:af):
  aC 54 #[aE a] c (aL #[M b,.nilIface]) :=
 (Tryz.strconv_Atoi_ok a E b d c).mono λ h g ⟨e,f⟩=>⟨e,by
  rcases f with rfl | ⟨j,rfl⟩
  ·exact Below.refl _ _
  ·exact Lib.bytesWorld_below _ _ _⟩
theorem ml (a:ch) (m:∀k,Lib.atoiAll a.data.toList≠.ok k) (o:a.size<=1048576) (c:af) (l:dp c):
  aY prog 54 #[aE a] c λ e d=>∃n b,e=aV (aL #[M n,.iface 160 (br b)]) /\ ap c d:=by
 cases h:Lib.atoiAll a.data.toList with
 | ok k=>exact bC h (m k)
 | «syntax» =>
  obtain⟨j,i,f⟩:=l.syn
  refine(Tryz.strconv_Atoi_syntax_var a E h j i c f).mono ?_
  rintro e d ⟨b,rfl,-,-,g⟩
  exact⟨_,b,I,g⟩
 | range =>
  obtain⟨j,i,f⟩:=l.rng
  refine(Tryz.strconv_Atoi_range_var a E h j i c f).mono ?_
  rintro e d ⟨b,rfl,-,-,g⟩
  exact⟨_,b,I,g⟩
theorem Ak (b:ch) (d:af) (Zw:b.size<=1048576) (ZQ:dp d):
  aY prog 163 #[aE b] d λ c o=>lK (bP b.data.toList) d.heap.size c o /\ ap d o:=by
 go_enter func163,ntmps163;go_wp2_with fail;obtain⟨D,B⟩:∃Zs:af,Zs=d.alloc (al #[] 3):=⟨_,I⟩;rw[<- B];have Zu:D.heap.size=d.heap.size+1:=by rw[B];simp
 have W:ap d D:=by rw[B];exact az d _
 have Zy:av D d.heap.size (aq d.heap.size 0 0) []:=by rw[B];exact pb d
 clear B;refine(Ki b D Zw (ZQ.below W)).mono ?_;rintro c Ze ⟨m,f,rfl,i,V,ZW⟩;obtain⟨j,ZS⟩:∃p,p=D.heap.size:=⟨_,I⟩;rw[<- ZS] at i ⊢;obtain⟨ZO,Zh,Zl,Zk,-⟩:=i.at;have Zz:m<=1048577:=by
  have n:=kD 32 b.data.toList;rw[<- V,eE] at n;simp at n;omega
 have O:=ab V;clear V;have v:=ab ZO;clear ZO;have Zm:d.heap.size<j:=E;clear Zu ZS;have Zx:=Zy.below ZW;have ZD:=W.trans (ZW.mono W.size);go_wp2;go_loopw [4,6,7,8,13,17] (λ Zt _ _ _ Z6 _ wr=>ap d wr /\ ∃(a p A:J),a<=m /\ Z6=M a /\ Zt=aq p a A /\ av wr d.heap.size (aq p a A) (dK dB ((f.map (·.data.toList)).take a)) /\ cb wr j (aq j m m) f /\ p≠j /\ U (i9 dB ((f.map (·.data.toList)).take a)=ae)) (λ _ _ _ _ Z6 _ _=>m-(intOf Z6).toNat)
 case atStart=>exact⟨ZD,0,d.heap.size,0,E,I,I,Zx,i,E,I⟩
 case round =>
  obtain⟨x,a,p,A,Zj,rfl,rfl,u,i,ZB,R⟩:=hrel;have P:=x.size;have C:(dK dB ((f.map (·.data.toList)).take a)).length=a:=by rw[o3];have:=v.o;simp;omega
  have ZP:=ZQ.below x;by_cases Zi:a<m
  ·obtain⟨e,G⟩:∃e,f[a]? =Z e:=⟨f[a]'(by have:=v.o;omega),fV _⟩;refine zl ?_;intro Z4 q r;have ZN:e.size<=1048576:=by
    exact wS
   have Z0:=ab q;have ZZ:=ab r;clear G q r;by_cases t:∃Zb,Lib.atoiAll e.data.toList=.ok Zb
   ·obtain⟨Zb,t⟩:=t;have L:=kE e Zb t ZN;have Z2:=ab t;clear t;cases y:bi (-1000000000) 1000000000 Zb with
    | false =>
     have l:U (bP b.data.toList=aj):=A1 ZZ.o (Kg Z2.o y)
     have Z9:∀g,aY prog 273 #[M Zb] g λ c o=>c=aV (aw ak) /\ g=o:= λ g=>by
      have:=oP Zb g;rw[y] at this;exact this
     clear y
     go_wp2_with (first | (go_at_call 54;refine(L _).mono ?_;rintro c g ⟨rfl,k⟩) | (go_at_call 273;refine(Z9 _).mono ?_;rintro c Zr ⟨rfl,rfl⟩))
     refine aK (v:=aL #[aa aj 0 0,aw ak]) (by simp[aJ,results163,go_sem]) I ⟨⟨_,by rw[l.o];rfl,by rw[l.o];exact av.nil _ _⟩,x.trans (k.mono P)⟩
    | true =>
     have Z9:∀g,aY prog 273 #[M Zb] g λ c o=>c=aV (aw ae) /\ g=o:= λ g=>by
      have:=oP Zb g;rw[y] at this;exact this
     have Z1:U (dB e.data.toList=Z Zb):=Kh Z2.o y
     clear y
     go_wp2_with (first | (go_at_call 54;refine(L _).mono ?_;rintro c g ⟨rfl,k⟩) | (go_at_call 273;refine(Z9 _).mono ?_;rintro c Zr ⟨rfl,rfl⟩) | (at_builtin;refine zN rfl _ _ rfl d.heap.size _ _ a C a6 ((u.below k).below (az g _)) _ _ Zb a6 ar E (by have:=k.size;simp;omega) ?_;intro Q ZM o ZL X ZT))
     have Zg:=k.size
     have ZK:=ab (cV ((x.trans (k.mono P)).alloc E _) (by simp;omega) X (λ ZI c=>(u.block ZI c).1))
     have ZC:Q≠j:=by
      rcases ZT with T | T
      ·have w:Z p=Z Q:=T;injection w with w;omega
      ·have:=i.at.2.2.2.1;simp at T;omega
     have Zv:cb o j (aq j m m) f:=((i.below k).below (az g _)).grown X (by intro c;injection c with c;exact ZB c.symm)
     have ZJ:U (dK dB ((f.map (·.data.toList)).take (a+1))=dK dB ((f.map (·.data.toList)).take a)++[Zb]):=BG dB Z0.o Z1.o
     have H:=ab (CQ Z0.o Z1.o R.o)
     clear X u ZT i
     go_roundw
     case rel=>exact⟨ZK.o,a+1,Q,ZM,E,by go_num,I,by rw[ZJ.o];exact ZL,Zv,ZC,H.o⟩
     case measure=>simp[intOf];omega
   ·have Z8:∀Zb,Lib.atoiAll e.data.toList≠.ok Zb:= λ Zb c=>t ⟨Zb,c⟩
    have l:U (bP b.data.toList=aj):=A1 ZZ.o (Kf Z8);have L:=ml e Z8 ZN;clear t Z8;go_wp2_with (go_at_call 54;refine(L _ ZP).mono ?_;rintro c g ⟨Zd,Zp,rfl,k⟩);exact xx
  ·have ZA:a=m:=E;have ZX:(f.map (·.data.toList)).take a=bo 32 b.data.toList:=by
    exact vk
   have H:=ab R.o;rw[ZX] at u H C;obtain⟨s,K⟩:∃s,s=dK dB (bo 32 b.data.toList):=⟨_,I⟩;have ZV:=JN (bo 32 b.data.toList);rw[<- K] at u C ZV;have ZR:(bo 32 b.data.toList).length=a:=by rw[<- C,K,o3]
   have Z3:=ab ZR;have S:=ab K;clear ZA ZX C R ZR K;by_cases ZE:16<a
   ·have l:U (bP b.data.toList=aj):=AS (by rw[Z3.o];exact ZE);go_wp2;refine aK (v:=aL #[aa aj 0 0,aw ak]) (by simp[aJ,results163,go_sem]) I ⟨⟨_,by rw[l.o];rfl,by rw[l.o];exact av.nil _ _⟩,x⟩
   ·have Zc:decide (16<(a:F))=ak:=by simp;omega
    obtain⟨Zo,Zf,Zn,ZF,Y⟩:=u.ints;injection ZF with ZH ZG ZY
    subst ZH ZG;have N:=nc _ a A s wr Y ZV E ZP.pow;by_cases z:b2 s=b.data.toList
    ·have l:U (bP b.data.toList=Z s):=by
      show _=_;rw[S.o];exact IF H.o (by rw[Z3.o];omega) (by rw[<- S.o];exact z)
     have ZU:ai (b2 s)=b:=by rw[z];exact lN (Array.toList_inj.1 (by rw[cE]))
     rw[ZU] at N
     clear z ZU ZY Y
     go_wp2_with (go_at_call 53;refine N.mono ?_;rintro c g ⟨rfl,k⟩)
     refine aK (v:=aL #[aq p a A,aw ae]) (by simp[aJ,results163,go_sem]) I ⟨⟨_,by rw[l.o];rfl,by rw[l.o];exact u.below k⟩,x.trans (k.mono P)⟩
    ·have l:U (bP b.data.toList=aj):=JM (by rw[<- S.o];exact z);obtain⟨Z5,Z7⟩:∃Z5,Z5=ai (b2 s):=⟨_,I⟩;rw[<- Z7] at N;have Zz:(Z5.toList==b.toList)=ak:=by
      rw[dx,mG,mG];intro c;exact z (by rw[<- c,Z7,cE])
     clear z Z7 Y ZY;go_wp2_with (go_at_call 53;refine N.mono ?_;rintro c g ⟨rfl,k⟩);exact xx
theorem C3 (a:af) (d:hC a) (f:∃c b,a.var? prog "strconv.ErrSyntax" =Z #[.iface c b]) (e:∃c b,a.var? prog "strconv.ErrRange" =Z #[.iface c b]) (h:a.ShapedOpen prog):dp a:=by
 obtain⟨i,g⟩:=Tryz.laysM146.s1_3 a h;exact⟨d,f,e,i,g⟩
end Go.Proofs.YtkjnhlpccgjfhaaGreatDoor
