/- A part of the proof: lemmas (my texts, shortened by a program of mine). -/
import Derived.Test.YtkjnhlpccgjfhaaGreatDoorC07
set_option linter.all false
set_option maxRecDepth 100000
set_option maxHeartbeats 4000000
namespace Go.Proofs.YtkjnhlpccgjfhaaGreatDoor
open Go.RowKit
open Go.Proofs.Tryz
open BitVec renaming ofInt->ka,ofNat->kM,toNat_ofNat->po
open Bool renaming and_eq_true->b9,false->ak,true->ae
open Go renaming Calls->aY,Oper->bD,Value->ay,World->af,bodyPost_ret->aK,results->aJ,wpQuiet_nil->dn
open Go.Ending renaming returned->aV
open Go.IntKind renaming i64->cz
open Go.IntWalk renaming i64_in->bV
open Go.Obj renaming cells->al
open Go.Value renaming agg->ba,bool->aw,int->ed,slice->aa,tuple->aL
open Go.World renaming block_lt_of_cell?->fX,cell?_alloc_lt->fr,cell?_setCell_other->c3,cell?_setCell_same->fZ,setCell->jc
open Int renaming zero_mul->j9
open List renaming length_map->ec,length_set->iu,replicate->bE
open Nat renaming le_refl->bL,le_trans->ez,lt_of_lt_of_le->cm,mod_eq_of_lt->pl,or_lt_two_pow->kd,xor_lt_two_pow->rI
open Option renaming none->aj,some->Z
open Option.some renaming inj->iO
open Or renaming inl->bj,inr->aP
open _root_ renaming Array->bg,Int->F,List->aU,Nat->J,if_neg->aF,if_pos->a7,rfl->I
variable {p q:Prop}
def ix (b:J):J->F:= λ a=>if a=b then 1 else 0
theorem nJ (e:ac) (b a:J):a9 (ix b) e a=if b<a then O e b else 0:=by
 induction a with
 | zero=>rw[aF E];rfl
 | succ a f =>
  rw[gV,f]
  unfold ix
  by_cases c:a=b
  ·subst c;rw[aF E,a7 rfl,a7 E];omega
  ·rw[aF c];by_cases d:b<a
   ·rw[a7 d,a7 E];omega
   ·rw[aF d,aF E];omega
theorem MJ (b c:ac) (a:J) (h:b.length=a) (i:c.length=a) (e:∀d,a9 d b a=a9 d c a):b=c:=by
 refine kI _ _ E λ f g=>?_
 have:=e (ix f);rwa [nJ,nJ,a7 E,a7 E] at this
theorem pc {b:F} {a:ac} (c:(bh b a).ok=ae):1<=bT a /\ (bh b a).size=b /\ (bh b a).parts.length=a.length /\ aI b (bh b a).parts=ae /\ ∀d,bT a*a9 d (bh b a).parts a.length=a9 d a a.length:=by
 have g:0<=bT a:=jm _ _;unfold bh at c ⊢;by_cases f:bT a=0
 ·rw[a7 f] at c;cases c
 ·rw[aF f] at c ⊢;by_cases e:aI b (a.map (· /bT a))=ae
  ·rw[a7 e];refine⟨E,I,ar,e,λ d=>?_⟩;exact CU d a (bT a) a.length aZ (lm a a.length)
  ·rw[aF e] at c;cases c
theorem Kx (h:J->F) (c:J->J->J) (d e:ac) (b g:J) (f:ac) (m:f.length=g) (a:J) (j:∀i,i<a->c b i<g):
  a9 h (dh c d e b f a) g=a9 h f g+O d b*a9 (λ i=>h (c b i)) e a /\ (dh c d e b f a).length=g:=by
 induction a with
 | zero=>refine⟨?_,m⟩;show a9 h f g=a9 h f g+O d b*0;omega
 | succ a o =>
  obtain⟨k,l⟩:=o λ i q=>j i E
  have n:dh c d e b f (a+1)=(dh c d e b f a).set (c b a) (O (dh c d e b f a) (c b a)+O d b*O e a):=rfl
  rw[n]
  refine⟨?_,by rw[iu];exact l⟩
  rw[uN _ _ _ _ _ (j a E) E,k,gV]
  have:O (dh c d e b f a) (c b a)+O d b*O e a-O (dh c d e b f a) (c b a)=O d b*O e a:=E
  rw[this,Int.mul_add]
  have p:h (c b a)*(O d b*O e a)=O d b*(h (c b a)*O e a):=by ac_rfl
  omega
theorem Ky (i:J->F) (c:J->J->J) (e f:ac) (g d a:J) (k:∀h b,h<a->b<d->c h b<g):
  a9 i (bN c e f g d a) g=a9 (λ h=>a9 (λ b=>i (c h b)) f d) e a /\ (bN c e f g d a).length=g:=by
 induction a with
 | zero=>exact⟨oZ _ _ _,by simp[bN,bx]⟩
 | succ a q =>
  obtain⟨l,m⟩:=q λ h b s j=>k h b E j
  have p:bN c e f g d (a+1)=dh c e f a (bN c e f g d a) d:=rfl
  obtain⟨n,o⟩:=Kx i c e f a g _ m d λ b j=>k a b E j
  rw[p]
  refine⟨?_,o⟩
  rw[n,l,gV]
  have r:O e a*a9 (λ b=>i (c a b)) f d=a9 (λ b=>i (c a b)) f d*O e a:=Int.mul_comm _ _
  omega
structure aA (lo hi:J) (w w':af):Prop where
 os:w'.os=w.os
 tape:w'.tape=w.tape
 output:w'.output=w.output
 size:w.heap.size<=w'.heap.size
 block:∀k,k<w.heap.size->(k<lo \/ hi<=k)->w'.heap[k]? =w.heap[k]?
theorem aA.refl (c b:J) (a:af):aA c b a a:=⟨I,I,I,bL _,λ _ _ _=>rfl⟩
theorem aA.grown {e d:J} {j f g:af} {i:Option J} (b:aA e d j f) (c:f.grownBy g i) (m:∀a,i=Z a->e<=a /\ a<d):aA e d j g :=
 ⟨c.os.trans b.os,c.tape.trans b.tape,c.output.trans b.output,ez b.size c.size,λ a h l=>(c.block a (cm h b.size) (λ k=>by have:=m a k.symm;omega)).trans (b.block a h l)⟩
theorem aA.keep {f e:J} {a c:af} {b o:J} {v:ay} (g:aA f e a c) (d: a.cell? ⟨b,o,aj⟩=Z v) (h:b<f \/ e<=b): c.cell? ⟨b,o,aj⟩=Z v:=by
 have j:=fX a ⟨b,o,aj⟩ d;have i:=g.block b j h;rw[<- d];unfold World.cell?;simp only[i]
theorem aA.below {f h B:J} {g c d:af} (a:Below B g c) (j:B<=c.heap.size) (b:aA f h c d) (k:B<=f):Below B g d :=
 ⟨b.os.trans a.os,b.tape.trans a.tape,b.output.trans a.output,ez a.size b.size,λ e i=>(b.block e E E).trans (a.block e i)⟩
theorem aA.row {lo h e:J} {k d:af} {c:ay} {l:ac} (r:aA lo h k d) (f:av k e c l) (p:∀b,c.ownBlock=Z b->b<lo \/ h<=b):av d e c l:=by
 refine⟨f.1,?_⟩;rcases f.2 with o | ⟨a,m,n,i,q,g,s⟩
 ·exact bj o
 ·refine aP ⟨a,m,n,i,q,?_,s⟩;rw[r.block a (lt_of_block g) (p a (by rw[i];rfl))];exact g
theorem aA.mono {e c d:J} {f b:af} (a:aA e c f b) (j:c<=d):aA e d f b:=⟨a.os,a.tape,a.output,a.size,λ h g i=>a.block h g E⟩
structure ga (w:af) (R:J) (ao:aG) (n:J):Prop where
 len:n<=140737488351232
 cell:0<n->∃b off,ao=Z ⟨b,off,aj⟩ /\ b<R /\ ∀k,k<n->∃v:F,0<=v /\ v<=255 /\ w.cell? ⟨b,off+k,aj⟩=Z (.int .u8 v)
theorem eR {c b:af} {a o:J} (d:b.heap[a]? =c.heap[a]?): b.cell? ⟨a,o,aj⟩= c.cell? ⟨a,o,aj⟩:=World.cell?_of_block (a:=⟨a,o,aj⟩) d
theorem gK {c b:af} {a o:J} (d:b.heap[a]? =c.heap[a]?): b.frozen? ⟨a,o,aj⟩= c.frozen? ⟨a,o,aj⟩:=World.frozen?_of_block (a:=⟨a,o,aj⟩) d
theorem ga.of_block {i c:af} {b:J} {d:aG} {h:J} (f:ga i b d h) (m:∀a,a<b->c.heap[a]? =i.heap[a]?):ga c b d h:=by
 refine⟨f.len,λ p=>?_⟩;obtain⟨e,r,j,g,n⟩:=f.cell p;refine⟨e,r,j,g,λ a o=>?_⟩;obtain⟨s,k,l,q⟩:=n a o;exact⟨s,k,l,(eR (m e g)).trans q⟩
def dW (b:af) (a f:J):Prop :=
 a<b.heap.size /\ ∃(c:aG) (d g e:J),b.cell? (ad a 0)=Z (aa c d g) /\ b.cell? (ad a 1)=Z (M e) /\ b.frozen? (ad a 1)=ak /\ e<=f /\ ga b a c d
theorem dW.of_block {e d:af} {a f:J} (i:dW e a f) (p:e.heap.size<=d.heap.size) (c:∀b,b<=a->d.heap[b]? =e.heap[b]?):dW d a f:=by
 obtain⟨o,g,q,h,r,j,k,l,m,n⟩:=i;exact⟨cm o p,g,q,h,r,(eR (c a aZ)).trans j,(eR (c a aZ)).trans k,(gK (c a aZ)).trans l,m,n.of_block λ b s=>c b E⟩
theorem dW.below {d w':af} {a b B:J} (e:dW d a b) (c:Below B d w') (g:a<B):dW w' a b:=e.of_block c.size λ f h=>c.block f E
theorem dW.mono {d:af} {c a b:J} (g:dW d c a) (p:a<=b):dW d c b:=by
 obtain⟨l,e,m,f,n,h,i,j,o,k⟩:=g;exact⟨l,e,m,f,n,h,i,j,E,k⟩
def n5 (b d:J) (g:af) (f:ay->af->Prop) (e:Ending) (a:af):Prop:=∃c,e=aV c /\ f c a /\ dW a b d /\ aA b (b+1) g a
theorem aA.trans {e c:J} {a f g:af} (b:aA e c a f) (d:aA e c f g):aA e c a g :=
 ⟨d.os.trans b.os,d.tape.trans b.tape,d.output.trans b.output,ez b.size d.size,λ i c h=>(d.block i (cm c b.size) h).trans (b.block i c h)⟩
theorem aA.of_below {g d:J} {b c:af} (a:ap b c):aA g d b c:=⟨a.os,a.tape,a.output,a.size,λ f e _=>a.block f e⟩
theorem aA.set {c a:J} {d:af} {b o:J} {v:ay} (f:c<=b /\ b<a):aA c a d (d.setCell ⟨b,o,aj⟩ v) :=
 ⟨I,I,I,by simp[jc],λ e h g=>Below.heap_setCell _ _ _ _ (by show e≠b;omega)⟩
theorem OR (b c:J) (h:b<1099511627776) (i:c<1099511627776):∃e:J,bits BinOp.xor cz (b:F) (c:F)=(e:F) /\ e<1099511627776:=by
 refine s3 ?_;intro a;have j:b^^^c<2^40:=rI E E;refine⟨b^^^c,?_,E⟩;show IntKind.i64.wrap ((((ka 64 (b:F))^^^(ka 64 (c:F))).toNat:J):F)=_;rw[a,a];have f:(kM 64 b^^^kM 64 c).toNat=(b^^^c):=by
  rw[BitVec.toNat_xor,po,po,pl E,pl E]
 rw[f];apply bV;omega
theorem OS (a b:F) (f:0<=a) (g:a<1099511627776) (h:¬b<1):0<=(bits BinOp.xor cz a (a/64)).tmod b /\ (bits BinOp.xor cz a (a/64)).tmod b<b:=by
 obtain⟨i,c,_⟩:=OR a.toNat (a.toNat/64) E E;have d:((a.toNat:J):F)=a:=E;have e:((a.toNat/64:J):F)=a/64:=E;rw[d,e] at c;rw[c,Int.tmod_eq_emod_of_nonneg E];exact⟨Int.emod_nonneg _ E,Int.emod_lt_of_pos _ E⟩
def OV (b:F) (c:ay) (_:af):Prop:=∃a:F,c=M a /\ 0<=a /\ (a<b \/ b<1 /\ a=0)
theorem dW.tick {b:af} {a f e g c:J} {d:Option Addr} (p:a<b.heap.size) (k: b.cell? ⟨a,0,aj⟩=Z (aa d e g)) (l: b.cell? ⟨a,1,aj⟩=Z (.int .i64 c)) (m: b.frozen? ⟨a,1,aj⟩=ak) (o:c<=f) (i:ga b a d e):
  dW (b.setCell ⟨a,1,aj⟩ (.int .i64 (c+1))) a (f+1) /\ aA a (a+1) b (b.setCell ⟨a,1,aj⟩ (.int .i64 (c+1))):=by
 refine⟨⟨by simp[jc];exact p,d,e,g,c+1,(by go_simp),?_,(by go_simp),E,i.of_block λ j n=>Below.heap_setCell _ _ _ _ (by show j≠a;omega)⟩,aA.set E⟩;go_simp
theorem eN (g j:J) (d:F) (m:af) (H:dW m g j) (R:j<=1000000000) (Z6:d<=1000000000000):
  aY prog 19 #[.pointer (Z ⟨g,0,aj⟩),.int .i64 d] m (n5 g (j+1) m (OV d)):=by
 obtain⟨x,P,a,Q,b,v,w,y,G,l⟩:=H;have c:=ab (dW.tick x v w y G l);have Z9:=l.len;by_cases D:d<1
 ·go_enter func19,ntmps19;go_wp2;go_ret;exact⟨_,I,⟨0,I,E,aP ⟨D,I⟩⟩,c.o.1,c.o.2⟩
 ·by_cases C:a=0
  ·subst C;go_enter func19,ntmps19;go_wp2;go_ret;exact⟨_,I,⟨0,I,E,bj E⟩,c.o.1,c.o.2⟩
  ·obtain⟨n,ZY,rfl,S,o⟩:=l.cell E;have Z5:¬n=g:=E;have O:¬g=n:=E;have i:=ab o;clear o;have Z8:(0:F)<(a:F):=E;have Z7:((a:F)==0)=ak:=by simpa using (show ¬(a:F)=0 from E)
   by_cases B:b<a
   ·obtain⟨t,p,q,T⟩:=i.o b B;have Z2:0<=t%d:=Int.emod_nonneg _ E;have Z1:t%d<d:=Int.emod_lt_of_pos _ E;go_enter func19,ntmps19;go_wp2;go_ret;exact⟨_,I,⟨_,I,E,bj E⟩,c.o.1,c.o.2⟩
   ·have z:b%a<a:=Nat.mod_lt _ E;have A:(b*7+3)%a<a:=Nat.mod_lt _ E;have X:(b:F)%(a:F)=((b%a:J):F):=ar;have Y:((b:F)*7+3)%(a:F)=(((b*7+3)%a:J):F):=ar;have Z4:(0:F)<=(b:F)/(a:F):=Int.ediv_nonneg E E;have Z3:(b:F)/(a:F)<=(b:F):=Int.ediv_le_self _ E;have u:U (∀e f:F,0<=e->e<=255->0<=f->f<=255->0<=e*131+f*1117+(b:F)*29+(b:F)/(a:F)*53 /\ e*131+f*1117+(b:F)*29+(b:F)/(a:F)*53<1099511627776):= λ e f _ _ _ _=>E
    generalize b%a=Z0 at *;generalize (b*7+3)%a=ZZ at *;obtain⟨e,p,q,V⟩:=i.o _ z;obtain⟨f,K,L,W⟩:=i.o _ A;go_enter func19,ntmps19;go_wp2;refine cC ?_;repeat (first | go_big_quiet_step ((fail)) | quiet_step ((fail)))
    refine dn ?_;refine dg ?_;intro ZX k;go_wp2;go_ret;have r:=u.o e f p q K L;have s:=OS _ d r.1 r.2 E;refine⟨_,I,⟨_,I,?_,?_⟩,?_,?_⟩
    ·exact s.1
    ·exact bj s.2
    ·exact c.o.1.of_block k.size λ N ZW=>k.block N (by have:=c.o.1.1;omega)
    ·exact c.o.2.trans (aA.of_below k)
theorem dW.on {e a:af} {c b:J} (d:dW e c b) (f:ap e a):dW a c b:=d.below f d.1
theorem ga.take {f:af} {a:J} {b:aG} {e d:J} (c:ga f a b e) (o:d<=e):ga f a b d:=by
 refine⟨by have:=c.len;omega,λ m=>?_⟩;obtain⟨g,l,h,i,j⟩:=c.cell E;exact⟨g,l,h,i,λ k n=>j k E⟩
theorem OL {j e:af} {a d i h f:J} {k:ac} (c:an j (Z ⟨a,d,aj⟩) i k) (g:aA h f j e) (p:a<h \/ f<=a):an e (Z ⟨a,d,aj⟩) i k:=by
 refine⟨c.len,c.cap,λ r=>?_⟩;obtain⟨t,u,b,n,o⟩:=c.cell r;injection b with b;injection b with l m
 subst l m;exact⟨a,d,I,cm n g.size,λ s q=>g.keep (o s q) p⟩
theorem aA.keepF {g f:J} {d b:af} {a h:J} (e:aA g f d b) (c:a<d.heap.size /\ d.frozen? ⟨a,h,aj⟩=ak) (i:a<g \/ f<=a):a<b.heap.size /\ b.frozen? ⟨a,h,aj⟩=ak :=
 ⟨cm c.1 e.size,(gK (e.block a c.1 i)).trans c.2⟩
theorem aA.belowKeepF {d:J} {c a:af} {b o:J} (e:Below d c a) (f:b<c.heap.size /\ c.frozen? ⟨b,o,aj⟩=ak) (g:b<d):b<a.heap.size /\ a.frozen? ⟨b,o,aj⟩=ak :=
 ⟨cm f.1 e.size,(gK (e.block b g)).trans f.2⟩
theorem IS {e:af} {c d a:J} {f:ac} (k:an e (Z (ad c 0)) d f) (j:a<d): e.cell? (ad c a)=Z (M (O f a)):=by
 obtain⟨l,n,b,m,i⟩:=k.cell E;injection b with b;injection b with g h
 subst g h;have:=i a j;rwa [Nat.zero_add] at this
theorem CE (a b:J):((ad a 0):Addr).add b=(ad a b):=by unfold Addr.add;split<;>simp_all
theorem OH (d:aG) (c b:J) (a:af) (f:ga a a.heap.size d c) (n:c<=b):
  aY prog 16 #[aa d c b] a λ j o=>j=aV (br a.heap.size) /\ dW o a.heap.size 0 /\ ap a o:=by
 have l:=f.len;have i:=ab f;clear f;by_cases m:2000<c
 ·have k:2000<=b:=E;go_enter func16,ntmps16;go_wp2;go_ret;exact⟨I,⟨ar,d,2000,b,0,ar,ar,ar,bL _,(i.o.take E).of_block λ g e=>(az a _).block g e⟩,az a _⟩
 ·go_enter func16,ntmps16;go_wp2;go_ret;exact⟨I,⟨ar,d,c,b,0,ar,ar,ar,bL _,i.o.of_block λ g e=>(az a _).block g e⟩,az a _⟩
def OW (b:ac) (c:ay) (_:af):Prop:=∃a,a<b.length /\ c=M (O b a)
theorem Do (c d g b n:J) (l:ac) (f:af) (s:dW f c d) (q:d<=1000000000) (j:an f (Z (ad g 0)) b l) (x:g≠c) (A:0<b) (B:b<=1000):
  aY prog 17 #[br c,aq g b n] f (n5 c (d+1) f (OW l)):=by
 have m:=ab j.len;go_enter func17,ntmps17;go_wp2_with fail;refine(eN c d _ _ s q E).mono ?_;rintro e K ⟨H,rfl,⟨k,rfl,C,D⟩,t,i⟩;obtain⟨a,rfl⟩:∃a:J,k=(a:F):=⟨k.toNat,E⟩;have L:a<b:=E;have y:(0:F)<=(a:F):=E;have z:(a:F)<(b:F):=E;obtain⟨v,G,e,w,u,r⟩:=(OL j i E).at bA L;injection e with e;injection e with o p
 subst o p;rw[Nat.zero_add] at r;go_wp2;go_ret;exact⟨_,I,⟨a,by rw[m.o];exact L,I⟩,t,i⟩
theorem aA.on {i f:J} {c d e:af} (a:aA i f c d) (b:Below c.heap.size d e):aA i f c e :=
 ⟨b.os.trans a.os,b.tape.trans a.tape,b.output.trans a.output,ez a.size b.size,λ h g j=>(b.block h g).trans (a.block h g j)⟩
structure dy (w:af) (b:J) (v0 v1:ay):Prop where
 c0: w.cell? (ad b 0)=Z v0
 c1: w.cell? (ad b 1)=Z v1
 f0: w.frozen? (ad b 0)=ak
 f1: w.frozen? (ad b 1)=ak
 lt:b<w.heap.size
theorem dy.of_block {e d:af} {b:J} {f g:ay} (a:dy e b f g) (c:d.heap[b]? =e.heap[b]?) (h:e.heap.size<=d.heap.size):dy d b f g :=
 ⟨(eR c).trans a.c0,(eR c).trans a.c1,(gK c).trans a.f0,(gK c).trans a.f1,cm a.lt h⟩
theorem dy.below {f w':af} {a:J} {d e:ay} (b:dy f a d e) (c:ap f w'):dy w' a d e:=b.of_block (c.block a b.lt) c.size
theorem dy.span {f d:J} {i b:af} {a:J} {g h:ay} (c:dy i a g h) (e:aA f d i b) (j:a<f \/ d<=a):dy b a g h:=c.of_block (e.block a c.lt j) e.size
theorem dy.grown {h b:af} {a g:J} {e f:ay} (c:dy h a e f) (d:h.grownBy b (Z g)) (i:a≠g):dy b a e f:=c.of_block (d.block a c.lt (by simpa using i)) d.size
theorem dy.mk2 {d:af} {a:J} {b c:ay} {f:TypeId} (e:d.heap.size=a):dy (d.alloc (al #[b,c] f)) a b c:=by
 subst e;exact⟨ar,ar,ar,ar,ar⟩
theorem dW.grown {f b:af} {a c g:J} (d:dW f a c) (e:f.grownBy b (Z g)) (i:a<g):dW b a c :=
 d.of_block e.size λ h j=>e.block h (by have:=d.1;omega) (by simp;omega)
theorem aA.grownOn {j g f:J} {c d e:af} (a:aA j g c d) (b:d.grownBy e (Z f)) (l:c.heap.size<=f):aA j g c e :=
 ⟨b.os.trans a.os,b.tape.trans a.tape,b.output.trans a.output,ez a.size b.size,λ i h k=>(b.block i (cm h a.size) (by simp;omega)).trans (a.block i h k)⟩
theorem dD {c f d b:J} (e:(aa (Z (ad c 0)) f d).ownBlock=Z b):b=c:=by
 have a:=e;injection a with a;exact a.symm
def OM (a:F) (e:J) (f:ay) (d:af):Prop:=∃c b,f=ba #[M a,c] /\ av d e c b /\ b.length=aH a /\ aI a b=ae
def iQ (c:F) (d:J) (b:ac):Prop:=∀a,a<d->0<=O b a /\ O b a<=c
theorem iQ.zero (a b:J):iQ 0 a (bE b 0):= λ c _=>by rw[eF];omega
theorem iQ.set {a b:F} {c i:J} {d:ac} (e:iQ a c d) (h:0<=b) (j:b<=a):iQ a c (d.set i b):= λ g f=>by
 rw[cO];split
 ·omega
 ·exact e g f
theorem iQ.mono {b a:F} {c:J} {d:ac} (e:iQ b c d) (h:b<=a):iQ a c d:= λ g f=>by have:=e g f;omega
theorem av.view {c:af} {e b f:J} {a:aG} {d:ac} (k:av c e (aa a b f) d):an c a b d:=by
 obtain⟨m,o,n,g,l⟩:=k.ints;injection g with h i j
 subst h i j;exact l
theorem World.setCell2_other (e:af) (a c:J) (f g:ay) (d:c≠a):((e.setCell (ad a 0) f).setCell (ad a 1) g).heap[c]? =e.heap[c]? :=by
 simp only[jc,Array.getElem?_modify];rw[aF (λ b=>d b.symm),aF (λ b=>d b.symm)]
theorem av.put2 {g:af} {d b:J} {c h j:ay} {i:ac} (k:av g d c i) (e:∀f,c.ownBlock=Z f->f≠b):av ((g.setCell (ad b 0) h).setCell (ad b 1) j) d c i :=
 (k.setOther (a:=(ad b 0)) (λ a=>e _ a I) h).setOther (a:=(ad b 1)) (λ a=>e _ a I) j
theorem dy.put2 {e:af} {b:J} {f g:ay} (a:dy e b f g) (c d:ay):dy ((e.setCell (ad b 0) c).setCell (ad b 1) d) b c d :=
 ⟨(c3 _ _ _ _ ar).trans (fZ _ _ _ a.c0),fZ _ _ _ ((c3 _ _ _ _ ar).trans a.c1),by simp[a.f0],by simp[a.f1],by simp;exact a.lt⟩
theorem ga.on {h c:af} {a b:J} {d:aG} {g:J} (f:ga h a d g) (l:Below a h c) (u:a<=b):ga c b d g:=by
 refine⟨f.len,λ p=>?_⟩;obtain⟨e,s,i,m,n⟩:=f.cell p;refine⟨e,s,i,E,λ r o=>?_⟩;obtain⟨t,j,k,q⟩:=n r o;exact⟨t,j,k,(eR (l.block e m)).trans q⟩
theorem N4 (d:aG) (c e a:J) (b:af) (h:b.heap.size=a) (j:ga b a d c) (i:c<=e):
  aY prog 16 #[aa d c e] b λ g f=>g=aV (br a) /\ dW f a 0 /\ Below a b f:=by
 subst h;exact OH d c e b j i
def cX (b:F) (a:J):ac:=(bE (aH b) 0).set a 1
theorem mz (a:F) (b:J):(cX a b).length=aH a:=by simp[cX]
theorem CW (c:J->F) (b:F) (a:J) (d:a<aH b):a9 c (cX b a) (aH b)=c a:=by
 unfold cX;rw[uN _ _ _ _ _ d ar,oZ,eF];omega
theorem Dq (d:F) (c b:J) (f:b<aH d):O (cX d c) b=if c=b then 1 else 0:=by
 unfold cX;rw[cO,eF];by_cases a:c=b
 ·rw[a7 ⟨a,by simpa using f⟩,a7 a]
 ·rw[aF (λ e=>a e.1),aF a]
theorem N3 {a:F} {b:J} (j:bK a=ae) (d:b<aH a):aI a (cX a b)=ae:=by
 have k:aW (cX a b)=1:=by rw[nL,mz,CW _ _ _ d]
 have g:bT (cX a b)=1:=by
  have c:=lm (cX a b) (cX a b).length b (by rw[mz];exact d);rw[Dq _ _ _ d,a7 rfl] at c;have l:0<=bT (cX a b):=jm _ _;have m:bT (cX a b)<=1:=Int.le_of_dvd E c;have n:bT (cX a b)≠0:=by
   intro e;have f:es (cX a b) (cX a b).length=0:=e;rw[f] at c;obtain⟨p,i⟩:=c;simp at i
  omega
 unfold aI;rw[j,mz,k,g,(cp _ _).2]
 ·simp[bi]
 ·intro o h;rw[Dq _ _ _ h];split<;>decide
theorem ty {j:af} {l:bg bD} {rest:aU bD} {e:bD} {d:Act} {k:Exit->Act->af->Prop} (b:J) (n:j.heap.size=b)
  (r:e.guard=aj) (i h:Operand) (u:e.op=Op.makeSlice 27 i h) (a:J) (g f:F) (s:d.eval i=M g) (q:d.eval h=M f) (p:g=(a:F)) (m:f=(a:F)) (t:a<=1000000000)
  (o:∀c,av c b (aq b a a) (bE a 0)->ap j c->b<c.heap.size->wpList prog l k rest (d.put e.dst (aq b a a)) c):
  wpList prog l k (e::rest) d j:=by
 subst n;exact e6 r i h u a g f s q p m t o
theorem qW (a:F) (c:J) (b:af) (m:bK a=ae) (l:c<aH a):
  aY prog 21 #[M a,M c] b λ w n=>(∃t,w=aV (ba #[M a,t]) /\ av n b.heap.size t (cX a c)) /\ ap b n:=by
 have C:1<=a /\ a<=4:=by rcases cG.1 m with j | j | j | j<;>omega
 have r:=ho m;have D:=b8 m;go_enter func21,ntmps21;go_wp2_with (at_make;refine ty (b.heap.size+1) ar I _ _ I (aH a) _ _ I I r r E ?_;intro y g o G;(have u:=(g.cellAt l).1);(have v:=(g.cellAt l).2.1);obtain⟨e,f,K,i,k⟩:=j7 o;(have p:b.heap.size<y.heap.size:=E));obtain⟨H,s,q,d⟩:=dC g l 1;rw[s];replace K:=eQ d e E K;replace i:=eQ d f E i;replace e:=cW d e E;replace f:=cW d f E;have x:=cm p d.size;have B:=iD k k.size d E;clear s d g u v k o p;refine aK (v:=ba #[M a,aq (b.heap.size+1) (aH a) (aH a)]) (by simp[aJ,results21,go_sem,e,f,K,i,x,fr]) I ⟨⟨_,I,?_⟩,?_⟩
 ·exact x9
 ·exact aD
theorem vd (c:F) (a:J) (g:bK c=ae) (h:(a:F)<c):∃d:J,wrap64 (2^a)=(d:F) /\ d<aH c /\ (0:F)<=(d:F) /\ (d:F)<(aH c:F):=by
 have e:a<c.toNat:=E;have f:a<=29:=by rcases cG.1 g with b | b | b | b<;>omega
 have b:2^a<aH c:=by unfold aH;exact Nat.pow_lt_pow_right aX e
 exact⟨2^a,gO a f,b,Int.natCast_nonneg _,Int.ofNat_lt.2 b⟩
theorem OX (a:F) (b c:J) (f:bK a=ae) (d:b<aH a) (e:c<aH a):b|||c<aH a:=by
 unfold aH at *;exact kd d e
theorem Dn (g V:J) (a:F) (X0:af) (Zp:dW X0 g V) (Yr:V<=500000000) (Q:bK a=ae):
  aY prog 61 #[br g,M a] X0 (n5 g (V+40) X0 (OM a X0.heap.size)):=by
 have Yq:=Zp.1;have Yh:1<=a /\ a<=4:=by rcases cG.1 Q with ZA | ZA | ZA | ZA<;>omega
 have Y3:=ho Q;have ZI:=b8 Q;obtain⟨n,Yb,ZH⟩:∃n:J,(aH a:F)-1=(n:F) /\ n<aH a:=⟨aH a-1,E,E⟩;go_enter func61,ntmps61;go_wp2_with (at_make;refine ty (X0.heap.size+1) ar I _ _ I (aH a) _ _ I I Y3 Y3 E ?_;intro Ze b Y7 X7;obtain⟨u,v,x,y,Zx⟩:=j7 Y7;(have ZS:X0.heap.size<Ze.heap.size:=E);clear Y7);have d:dy Ze X0.heap.size (M 0) (aa aj 0 0):=⟨u,v,x,y,ZS⟩;have f:=Zp.on Zx;have c:=(aA.of_below Zx:aA g (g+1) X0 Ze);have k:=iQ.zero (aH a) (aH a);clear Zp u v x y Zx;refine(eN g V _ _ f E E).mono ?_;rintro j X4 ⟨_,rfl,⟨ZG,rfl,X6,X5⟩,Z5,ZP⟩;replace d:=d.span ZP E;replace b:=aA.row ZP b (λ ZX j=>by have:=dD j;omega);replace c:=c.trans ZP;have Yf:=ZP.size;clear f ZP;by_cases YQ:ZG=0
 ·subst YQ;go_wp2;go_loopw [7] (λ G wr=>∃(i:J) (e:ac),(i:F)<=a /\ G=M i /\ iQ 1000 (aH a) e /\ av wr (X0.heap.size+1) (aq (X0.heap.size+1) (aH a) (aH a)) e /\ dy wr X0.heap.size (M 0) (aa aj 0 0) /\ dW wr g (V+1+i) /\ aA g (g+1) X0 wr /\ X0.heap.size+1<wr.heap.size) (λ G _=>(a-intOf G).toNat)
  case atStart=>exact⟨0,_,E,I,k.mono E,b,d,Z5,c,E⟩
  case round =>
   obtain⟨i,e,Y6,rfl,k,b,d,f,c,Zl⟩:=hrel;by_cases ZS:(i:F)<a
   ·obtain⟨YD,Zo,ZJ,Yp,Yo⟩:=vd a i Q ZS;go_wp2_with fail;refine(eN g _ _ _ f E E).mono ?_;rintro j Zd ⟨_,rfl,⟨m,rfl,ZR,Zq⟩,P,H⟩;refine pZ ?_;intro d b c ZK;obtain⟨s,t,_⟩:=b.cellAt ZJ;clear f H;go_wp2_with fail;obtain⟨ZZ,Y2,YJ,ZU⟩:=dC b ZJ m;rw[Y2];have YN:=d.grown ZU E;have w:=P.grown ZU E;have YF:=c.grownOn ZU E;have Z0:=ZU.size;have YI:=k.set (i:=YD) ZR (show m<=1000 from E);clear Y2 ZU b s t d P c k;go_wp2;go_roundw
    case rel=>exact⟨i+1,_,E,by go_num,YI,YJ,YN,w,YF,E⟩
    case measure=>simp[intOf];omega
   ·exact vZ
 ·by_cases YP:ZG=1
  ·subst YP;go_wp2_with fail;refine(eN g _ _ _ Z5 E E).mono ?_;rintro j Zd ⟨_,rfl,⟨p,rfl,Y0,YZ⟩,P,H⟩;obtain⟨p,rfl⟩:∃ZW:J,p=(ZW:F):=⟨p.toNat,E⟩;refine pZ ?_;intro d b c ZK;obtain⟨YC,Zo,ZJ,Yn,Ym⟩:=vd a p Q E;clear Z5 H;go_wp2;go_loopw [8,9] (λ YU G wr=>∃(i r:J) (e:ac),(i:F)<=a /\ G=M i /\ YU=M r /\ r<aH a /\ iQ (4*i) (aH a) e /\ av wr (X0.heap.size+1) (aq (X0.heap.size+1) (aH a) (aH a)) e /\ dy wr X0.heap.size (M 0) (aa aj 0 0) /\ dW wr g (V+2+2*i) /\ aA g (g+1) X0 wr /\ X0.heap.size+1<wr.heap.size) (λ _ G _=>(a-intOf G).toNat)
   case atStart=>exact⟨0,YC,_,E,I,by rw[Zo],ZJ,k.mono E,b,d,P,c,E⟩
   case round =>
    obtain⟨i,r,e,Y6,rfl,rfl,ZV,k,b,d,f,c,Zl⟩:=hrel;clear Zo;by_cases ZS:(i:F)<a
    ·obtain⟨s,t,_⟩:=b.cellAt ZV;have Zr:=k r ZV;have Zz:(0:F)<=(r:F):=Int.natCast_nonneg _;have Zy:=Int.ofNat_lt.2 ZV;go_wp2_with fail;go_region_with (go_at_call 19;refine(eN g _ _ _ (f.on (bI _)) E E).mono ?_;rintro j ZZ ⟨_,rfl,⟨m,rfl,ZR,Zq⟩,w,z⟩;have T:=(aA.of_below (bI wr)).trans z;have YT:=aA.keep T s E;have YS:=(aA.keepF T ⟨E,t⟩ E).2);all_goals
      replace d:=d.span T E;replace b:=aA.row T b (λ ZX j=>by have:=dD j;omega);replace c:=c.trans T;have Z0:=T.size;clear f z T s t;obtain⟨S,ZM,q,A⟩:=dC b ZV (O e r+m);rw[show IntKind.i64.wrap (O e r+m)=O e r+m from bV _ E,ZM];have Zw:=d.grown A E;have ZQ:=w.grown A E;have Zn:=c.grownOn A E;have ZN:=A.size;have YH:=(k.mono (show 4*(i:F)<=4*((i+1:J):F) from E)).set (i:=r) (show 0<=O e r+m from E) (show O e r+m<=4*((i+1:J):F) from E);clear ZM A b YT YS d w c k Zr Zz Zy;go_wp2_with fail;refine(eN g _ _ _ ZQ E E).mono ?_;rintro j Z2 ⟨_,rfl,⟨o,rfl,Zk,Zj⟩,Z1,R⟩;obtain⟨o,rfl⟩:∃ZE:J,o=(ZE:F):=⟨o.toNat,E⟩;replace Zw:=Zw.span R E;replace q:=aA.row R q (λ ZX j=>by have:=dD j;omega);replace Zn:=Zn.trans R;have Zm:=R.size;obtain⟨Zi,Yg,YK,Yk,Yj⟩:=vd a o Q E;have YL:=Dk r Zi E E;have Y5:=OX a r Zi Q ZV YK;obtain⟨ZD,Y9⟩:∃ZD:J,ZD=r|||Zi:=⟨_,I⟩
      rw[<- Y9] at YL Y5;clear ZQ R Y9;go_wp2;go_roundw
      case rel=>exact⟨i+1,ZD,_,E,by go_num,I,Y5,YH,q,Zw,Z1.mono E,Zn,E⟩
      case measure=>simp[intOf];omega
    ·exact vZ
  ·by_cases YO:ZG=2
   ·subst YO;go_wp2_with fail;refine(eN g _ _ _ Z5 E E).mono ?_;rintro j Zd ⟨_,rfl,⟨p,rfl,Y0,YZ⟩,P,H⟩;obtain⟨p,rfl⟩:∃ZW:J,p=(ZW:F):=⟨p.toNat,E⟩;have YY:p<aH a:=E;have Ya:(p:F)<(aH a:F):=E;refine pZ ?_;intro d b c ZK;clear Z5 H;go_wp2_with fail;refine(eN g _ _ _ P E E).mono ?_;rintro j ZZ ⟨_,rfl,⟨o,rfl,Zk,Zj⟩,w,z⟩;refine sO ?_;intro d b c Z0;obtain⟨s,t,_⟩:=b.cellAt YY;clear P z;go_wp2_with fail;obtain⟨wr,ZM,q,A⟩:=dC b YY (1+o);rw[ZM];replace d:=d.grown A E;have f:=w.grown A E;replace c:=c.grownOn A E;have Zl:X0.heap.size+1<wr.heap.size:=by have:=A.size;omega
    replace k:=(k.mono (show (0:F)<=4 from E)).set (i:=p) (show 0<=1+o from E) (show 1+o<=4 from E);clear ZM A b s t w;have b:=q;clear q;obtain⟨s,t,_⟩:=b.cellAt ZH;have Zr:=k n ZH;generalize (bE (aH a) (0:F)).set p (1+o)=e at *;have Zz:(0:F)<=(n:F):=Int.natCast_nonneg _;have Zy:=Int.ofNat_lt.2 ZH;go_wp2_with fail;go_region_with (go_at_call 19;refine(eN g _ _ _ (f.on (bI _)) E E).mono ?_;rintro j Z2 ⟨_,rfl,⟨m,rfl,ZR,Zq⟩,Z1,R⟩;have U:=(aA.of_below (bI wr)).trans R;have K:=aA.keep U s E;have YR:=(aA.keepF U ⟨E,t⟩ E).2);all_goals
     replace d:=d.span U E;replace b:=aA.row U b (λ ZX j=>by have:=dD j;omega);replace c:=c.trans U;have Zm:=U.size;clear f R U s t;obtain⟨YW,Y1,Y4,ZT⟩:=dC b ZH (O e n+m);rw[show IntKind.i64.wrap (O e n+m)=O e n+m from bV _ E,Y1];replace d:=d.grown ZT E;have f:=Z1.grown ZT E;replace c:=c.grownOn ZT E;have Yc:X0.heap.size+1<YW.heap.size:=by have:=ZT.size;omega
     replace k:=(k.mono (show (4:F)<=8 from E)).set (i:=n) (show 0<=O e n+m from E) (show O e n+m<=8 from E);clear Y1 ZT b K YR Z1 Zr Zz Zy;have b:=Y4;clear Y4;go_wp2_with fail;obtain⟨ZC,Zg,ZB,X,C⟩:=b.ints;injection X with Y XZ Z9
     subst Y XZ Z9;refine(hk a _ _ _ _ _ C ZI.2 (λ Z4 Z8=>by have:=k Z4 Z8;omega)).mono ?_;rintro j S ⟨⟨Zf,rfl,q⟩,l⟩;obtain⟨W,Z3,K,rfl,Zv⟩:=q.ints;have Zu:=(ry a (e.set n (O e n+m)));have Zs:=b.len;replace d:=d.below l;replace f:=f.on l;replace c:=c.trans (aA.of_below l);have ZN:=l.size;clear l C b;obtain⟨u,v,x,y,L⟩:=d;cases Z6:(bh a (e.set n (O e n+m))).ok
     ·generalize (bh a (e.set n (O e n+m))).size=Zh;exact pN
     ·obtain⟨_,Zt,_,D,_⟩:=pc Z6;have Z7:=(cv D).2.1;go_wp2;refine aK (v:=am a W Z3 K) (by simp[aJ,results61,go_sem,u,v,x,y,L,fr]) I ⟨_,I,⟨_,_,I,?_,Z7,D⟩,?_,?_⟩
      ·refine av.mono (base:=YW.heap.size) ?_ E;exact pB
      ·exact(f.below (B:=g+1) aD E).mono E
      ·exact c.on aD
   ·have Yi:3<=ZG:=E;go_wp2_with fail;refine(eN g _ _ _ Z5 E E).mono ?_;rintro j Zd ⟨_,rfl,⟨p,rfl,Y0,YZ⟩,P,H⟩;obtain⟨p,rfl⟩:∃ZW:J,p=(ZW:F):=⟨p.toNat,E⟩;refine pZ ?_;intro d b c ZK;clear Z5 H;go_wp2;go_loopw [10] (λ G wr=>∃(i:J) (e:ac),i<=4 /\ G=M i /\ iQ 4 (aH a) e /\ av wr (X0.heap.size+1) (aq (X0.heap.size+1) (aH a) (aH a)) e /\ dy wr X0.heap.size (M 0) (aa aj 0 0) /\ dW wr g (V+12-2*i) /\ aA g (g+1) X0 wr /\ X0.heap.size+1<wr.heap.size) (λ G _=>(intOf G).toNat)
    case atStart=>exact⟨2+p,_,E,by go_num,k.mono E,b,d,P.mono E,c,E⟩
    case round =>
     obtain⟨i,e,Y6,rfl,k,b,d,f,c,Zl⟩:=hrel;by_cases ZS:0<i
     ·have Yl:(0:F)<(i:F):=E;go_wp2_with fail;refine(eN g _ _ _ f E E).mono ?_;rintro j ZZ ⟨_,rfl,⟨o,rfl,Zk,Zj⟩,w,z⟩;obtain⟨o,rfl⟩:∃ZE:J,o=(ZE:F):=⟨o.toNat,E⟩;have YX:o<aH a:=E;have X8:(o:F)<(aH a:F):=E;refine sO ?_;intro d b c Z0;clear f z;go_wp2_with fail;refine(eN g _ _ _ w E E).mono ?_;rintro j S ⟨_,rfl,⟨m,rfl,ZR,Zq⟩,ZQ,ZO⟩;replace d:=d.span ZO E;replace b:=aA.row ZO b (λ ZX j=>by have:=dD j;omega);replace c:=c.trans ZO;have ZN:=ZO.size;obtain⟨s,t,_⟩:=b.cellAt YX;clear w ZO;go_wp2_with fail;obtain⟨Z2,ZL,N,B⟩:=dC b YX m;rw[ZL];have YM:=d.grown B E;have Z1:=ZQ.grown B E;have YE:=c.grownOn B E;have Zm:=B.size;have YG:=k.set (i:=o) ZR (show m<=4 from E);clear ZL B b s t d ZQ c k;go_wp2;go_roundw
      case rel=>exact⟨i-1,_,E,by rw[show ((i-1:J):F)=(i:F)-1 from E],YG,N,YM,Z1.mono E,YE,E⟩
      case measure=>simp[intOf];omega
     ·obtain rfl:i=0:=E;go_wp2_with fail;refine(eN g _ _ _ f E E).mono ?_;rintro j ZZ ⟨_,rfl,⟨o,rfl,Zk,Zj⟩,w,z⟩;refine sO ?_;intro d b c Z0;have Ye:X0.heap.size+1<ZZ.heap.size:=E;clear f z;have f:=w;clear w;by_cases X9:0<o
      ·have Y8:0<aH a:=E;have Ys:(0:F)<(aH a:F):=E;obtain⟨s,t,_⟩:=b.cellAt Y8;go_wp2_with fail;obtain⟨Z2,ZL,N,B⟩:=dC b Y8 0;rw[ZL];replace d:=d.grown B E;replace f:=f.grown B E;replace c:=c.grownOn B E;have Yd:X0.heap.size+1<Z2.heap.size:=by have:=B.size;omega
       replace k:=k.set (i:=0) (show (0:F)<=0 from E) (show (0:F)<=4 from E);clear ZL B b s t;have b:=N;clear N;go_wp2_with fail;obtain⟨ZC,Zg,ZB,X,C⟩:=b.ints;injection X with Y XZ Z9
       subst Y XZ Z9;refine(hk a _ _ _ _ _ C ZI.2 (λ Z4 Z8=>by have:=k Z4 Z8;omega)).mono ?_;rintro j S ⟨⟨Zf,rfl,q⟩,l⟩;obtain⟨W,Z3,K,rfl,Zv⟩:=q.ints;have Zu:=(ry a (e.set 0 0));have Zs:=b.len;replace d:=d.below l;replace f:=f.on l;replace c:=c.trans (aA.of_below l);have ZN:=l.size;clear l C b;obtain⟨u,v,x,y,L⟩:=d;cases Z6:(bh a (e.set 0 0)).ok
       ·generalize (bh a (e.set 0 0)).size=Zh;exact pN
       ·obtain⟨_,Zt,_,D,_⟩:=pc Z6;have Z7:=(cv D).2.1;go_wp2;refine aK (v:=am a W Z3 K) (by simp[aJ,results61,go_sem,u,v,x,y,L,fr]) I ⟨_,I,⟨_,_,I,?_,Z7,D⟩,?_,?_⟩
        ·refine av.mono (base:=Z2.heap.size) ?_ E;exact pB
        ·exact(f.below (B:=g+1) aD E).mono E
        ·exact c.on aD
      ·have YV:o=0:=E;subst YV;go_wp2_with fail;obtain⟨ZC,Zg,ZB,X,C⟩:=b.ints;injection X with Y XZ Z9
       subst Y XZ Z9;refine(hk a _ _ _ _ _ C ZI.2 (λ Z4 Z8=>by have:=k Z4 Z8;omega)).mono ?_;rintro j S ⟨⟨Zf,rfl,q⟩,l⟩;obtain⟨W,Z3,K,rfl,Zv⟩:=q.ints;have Zu:=(ry a e);have Zs:=b.len;replace d:=d.below l;replace f:=f.on l;replace c:=c.trans (aA.of_below l);have ZN:=l.size;clear l C b;obtain⟨u,v,x,y,L⟩:=d;cases Z6:(bh a e).ok
       ·generalize (bh a e).size=Zh;exact pN
       ·obtain⟨_,Zt,_,D,_⟩:=pc Z6;have Z7:=(cv D).2.1;go_wp2;refine aK (v:=am a W Z3 K) (by simp[aJ,results61,go_sem,u,v,x,y,L,fr]) I ⟨_,I,⟨_,_,I,?_,Z7,D⟩,?_,?_⟩
        ·refine av.mono (base:=ZZ.heap.size) ?_ E;exact pB
        ·exact(f.below (B:=g+1) aD E).mono E
        ·exact c.on aD
theorem EH {c:af} {y:bg bD} {rest:aU bD} {k:bD} {g:Act} {t:Exit->Act->af->Prop} (G:k.guard=aj) (r s:Operand)
  (N:k.op=.call {callee:=.builtin .append,args:=#[r,s],argTypes:=#[27,27]})
  (h:J) (l:ay) (m:ac) (j:J) (K:m.length=j) (Q:g.eval r=l) (P:av c h l m)
  (n a u:J) (e:ac) (R:g.eval s=aq n a u) (x:an c (Z (ad n 0)) a e) (L:0<a)
  (X:j+a<1000000000) (F:h<=c.heap.size)
  (z:∀f i d,av d h (aq f (j+a) i) (m++e)->c.grownBy d l.ownBlock->wpList prog y t rest (g.put k.dst (aq f (j+a) i)) d):
  wpList prog y t (k::rest) g c:=by
 obtain⟨V,H,S,T,U⟩:=info_parts ig;have b:=x.len;subst K;refine wpList_plain G λ _ D=>wp_append_lies c r s 27 N h 3 V (M 0) 1 8 underlying27 H S T U I aX l m.length _ Q P (ad n 0) a u (e.map (ed .i64)) R (by simp[b]) ?_ ?_ L (by unfold maxLen;omega) E F _ I λ f i d B p _ _=>D _ _ (z f i d ?_ p)
 ·intro q W o;have v:q<a:=by
   exact wM
  have C:(e.map (ed .i64))[q]? =Z (M (O e q)):=by simp[O,b,v]
  have p:=iO (o.symm.trans C);rw[p,CE];exact IS x v
 ·intro W w;simp at w;obtain⟨Y,_,rfl⟩:=w;rfl
 ·simpa [av,b] using B
structure jK (R B:J) (w w':af):Prop where
 os:w'.os=w.os
 tape:w'.tape=w.tape
 output:w'.output=w.output
 size:w.heap.size<=w'.heap.size
 block:∀k,k<w.heap.size->k<B->k≠R->w'.heap[k]? =w.heap[k]?
theorem jK.refl (c b:J) (a:af):jK c b a a:=⟨I,I,I,bL _,λ _ _ _ _=>rfl⟩
theorem jK.on {e d:J} {c f g:af} (a:jK e d c f) (b:Below c.heap.size f g):jK e d c g :=
 ⟨b.os.trans a.os,b.tape.trans a.tape,b.output.trans a.output,ez a.size b.size,λ i h j k=>(b.block i h).trans (a.block i h j k)⟩
theorem jK.grownOn {d c g:J} {j e f:af} (a:jK d c j e) (b:e.grownBy f (Z g)) (m:c<=g):jK d c j f :=
 ⟨b.os.trans a.os,b.tape.trans a.tape,b.output.trans a.output,ez a.size b.size,λ i h k l=>(b.block i (cm h a.size) (by simp;omega)).trans (a.block i h k l)⟩
theorem jK.span {b k:J} {c d e:af} (a:aA b (b+1) c d) (j:jK b k d e) (i:c.heap.size<=k):aA b (b+1) c e :=
 ⟨j.os.trans a.os,j.tape.trans a.tape,j.output.trans a.output,ez a.size j.size,λ g f h=>(j.block g (cm f a.size) E E).trans (a.block g f h)⟩
theorem qp (a:F) (c:J) (b:af) (m:bK a=ae) (l:c<aH a):
  aY prog 13 #[M a,M c] b λ w n=>(∃t,w=aV (ba #[M a,t]) /\ av n b.heap.size t (cX a c)) /\ ap b n:=by
 have C:1<=a /\ a<=4:=by rcases cG.1 m with j | j | j | j<;>omega
 have r:=ho m;have D:=b8 m;go_enter func13,ntmps13;go_wp2_with (at_make;refine ty (b.heap.size+1) ar I _ _ I (aH a) _ _ I I r r E ?_;intro y g o G;(have u:=(g.cellAt l).1);(have v:=(g.cellAt l).2.1);obtain⟨e,f,K,i,k⟩:=j7 o;(have p:b.heap.size<y.heap.size:=E));obtain⟨H,s,q,d⟩:=dC g l 1;rw[s];replace K:=eQ d e E K;replace i:=eQ d f E i;replace e:=cW d e E;replace f:=cW d f E;have x:=cm p d.size;have B:=iD k k.size d E;clear s d g u v k o p;refine aK (v:=ba #[M a,aq (b.heap.size+1) (aH a) (aH a)]) (by simp[aJ,results13,go_sem,e,f,K,i,x,fr]) I ⟨⟨_,I,?_⟩,?_⟩
 ·exact x9
 ·exact aD
theorem IT {c:F} {a:ac} (b:aI c a=ae):jv 1000000 a=aW a:=by
 simp only[aI,b9] at b;unfold jv;rw[a7 b.1.1.2]
theorem hn (g:F) (d:aG) (b i:J) (c:ac) (a:af) (f:an a d b c) (e:aI g c=ae):
  aC 76 #[am g d b i] a (M (aW c)):=by
 have j:b<=16:=by have:=(cv e).2.2.1;have:=f.len;omega
 have m:=ab (IT e);go_enter func76,ntmps76;go_wp2_with (first | (go_at_call 172;refine(ui _ _ _ _ _ _ (f.below (az a _)) j aX aX).mono ?_;rw[m.o];rintro l k ⟨rfl,rfl⟩));go_ret;exact⟨I,az a _⟩
def em (c:F) (a b:ac):bb:=if ci c a&&b7 c b then bv (bS 1000 a b a.length) (aW a) else bb.no
theorem qY {b:F} {d c:ac} (a:ci b d=ak \/ b7 b c=ak):em b d c=bb.no:=by
 rcases a with a | a<;>simp[em,a]
theorem zA (g:F) (q Y:aG) (m r D ZZ:J) (o u:ac) (a:af) (B:an a q m o) (T:an a Y D u):
  aC 106 #[am g q m r,aa Y D ZZ] a (aL #[ba #[M (em g o u).num,M (em g o u).den],aw (em g o u).ok]):=by
 have Z8:Below a.heap.size a ((a.alloc (al #[M g,aa q m r] 29)).alloc (al #[M 0,M 0] 55)):=(az a _).alloc ar _;have S:=B.below Z8;have V:=T.below Z8;cases C:(aI g o&&b7 g u)
 ·have G:U (em g o u=bb.no):=qY (by
   cases Z9:aI g o
   ·left;simp[ci,Z9]
   ·right;simpa [Z9] using C)
  go_enter func106,ntmps106
  go_wp2_with fail
  refine(nf _ _ _ _ _ _ _ o u _ S V).mono ?_;rw[C];rintro n j ⟨rfl,i⟩
  obtain⟨c,d,e,f⟩:=cj (a.heap.size+1) i ar
  have l:ap a j:=dz i
  clear i
  go_wp2
  refine aK (v:=bz 0 0 ak) (by simp[aJ,results106,go_sem,c,d]) I ⟨?_,?_⟩
  ·rw[G.o];rfl
  ·exact bB
 ·cases H:ci g o
  ·have G:U (em g o u=bb.no):=qY (bj H);go_enter func106,ntmps106;go_wp2_with fail;refine(nf _ _ _ _ _ _ _ o u _ S V).mono ?_;rw[C];rintro n j ⟨rfl,i⟩;refine fI ?_;intro c d e f;refine fg ?_;intro s t;refine e5 ?_;intro l;clear i;go_wp2_with fail;refine(iA _ _ _ _ _ _ (B.below l)).mono ?_;rw[H];rintro n z ⟨rfl,v⟩;refine hF ?_;intro e f c d A;clear v;go_wp2;refine aK (v:=bz 0 0 ak) (by simp[aJ,results106,go_sem,c,d]) I ⟨?_,?_⟩
   ·rw[G.o];rfl
   ·exact bB
  ·have Z7:b7 g u=ae:=by simp only[b9] at C;exact C.2
   obtain⟨R,Zz⟩:=tD H;have G:U (em g o u=bv (bS 1000 o u m) (aW o)):=by show em g o u=_;unfold em;rw[H,Z7,B.len];rfl
   have y:=ab (js R Zz Z7 B.len T.len);obtain⟨_,_,_,_,ZF,ZE,_⟩:=cv R;have X:=ab (mp 1000 E o u m y.o.xb (λ b Z6=>y.o.gb b (by rw[<- y.o.glen];exact Z6)));have ZI:=y.o.n16;have ZV:=y.o.n1;have Z0:U (bS 1000 o u 1=0):=by
    show (0:F)+O o 0*dE 1000 u 0 u.length=0;rw[y.o.zero,j9];rfl
   have Z4:D<=29:=by have:=y.o.m4;omega
   clear Zz;go_enter func106,ntmps106;go_wp2_with fail;refine(nf _ _ _ _ _ _ _ o u _ S V).mono ?_;rw[C];rintro n j ⟨rfl,i⟩;refine fI ?_;intro c d e f;refine fg ?_;intro s t;refine e5 ?_;intro l;have ZD:a.heap.size+1<j.heap.size:=b6 c;clear i;go_wp2_with fail;refine(iA _ _ _ _ _ _ (B.below l)).mono ?_;rw[H];refine sI ?_;intro z v e f c d s t A;clear v;go_wp2;go_loopw [6,7] (λ ZT W wr=>∃b:J,1<=b /\ b<=m /\ W=M b /\ ZT=M (bS 1000 o u b) /\ ap z wr) (λ _ W _=>m-(intOf W).toNat)
   case atStart=>exact⟨1,E,ZV,I,by rw[Z0.o],Below.refl _ _⟩
   case round =>
    obtain⟨b,ZL,Z6,rfl,rfl,w⟩:=hrel;have N:=au A w;have ZH:=ag w s;have ZG:=ag w t;have Z2:=T.below N;by_cases Z5:b<m
    ·obtain⟨ZQ,ZC,rfl,ZO,ZR,ZN⟩:=B.at N Z5;have Z3:=y.o.xb b Z5;have Q:=rn 1000 E u b D y.o.gb D aZ;have ZX:=Q.1;have ZW:=Q.2;have ZJ:=lC _ _ Z3.1 Z3.2 ZX ZW;have ZU:=X.o b E;have K:U (bS 1000 o u (b+1)=bS 1000 o u b+O o b*dE 1000 u b D):=by
      show bS 1000 o u b+O o b*dE 1000 u b u.length=_;rw[y.o.glen]
     have ZK:(b:F)<=16:=E;have ZM:(0:F)<=(b:F):=E;have P:(b:F)<(m:F):=E;clear Q;go_wp2;refine cC ?_;repeat (first | go_big_quiet_step ((go_at_call 207;exact ej (qo _ _ _ _ _ _ E (Z2.below (aM _ _)) Z4))) | quiet_step ((go_at_call 207;exact ej (qo _ _ _ _ _ _ E (Z2.below (aM _ _)) Z4))))
     exact pJ
    ·have P:b=m:=E;have ZU:=X.o b E;have Z1:=ab P;clear P;refine ot ?_;intro e f c d;go_wp2_with fail;refine(hn _ _ _ _ o _ (B.below N) R).mono ?_;rintro n ZB ⟨rfl,x⟩;refine l3 ?_;intro e f c d;have ZY:=au N x;clear x;go_wp2_with fail;refine sS ?_;rintro n ZA ⟨rfl,p⟩;refine h9 ?_;intro e f c d;have ZP:=au ZY p;clear p;go_wp2;refine aK (v:=aL #[ba #[M (bv (bS 1000 o u b) (aW o)).num,M (bv (bS 1000 o u b) (aW o)).den],aw (bv (bS 1000 o u b) (aW o)).ok]) (by simp[aJ,results106,go_sem,c,d]) I ⟨?_,?_⟩
     ·rw[G.o,<- Z1.o]
     ·exact bB
theorem fu.hi_bd {h:F} {a c:J} {d b:ac} (e:fu h a c d b): -32000000000<= -(bS 1000 d (ca b c) a) /\ -(bS 1000 d (ca b c) a)<=32000000000:=by
 have i:=mp 1000 E d (ca b c) a e.xb (λ g f=>e.neg g (by rw[i2] at f;exact f)) a aZ;have:=e.n16;omega
theorem ub {c:F} {b:ac} (a:ci c b=ae):aI c b=ae /\ O b 0=0:=by
 unfold ci at a;rw[b9] at a;refine⟨a.1,?_⟩;have:=a.2;first | exact eq_of_beq this | simpa using this
def fB (c:F) (a b:ac):bb:=if ci c a&&b7 c b then bv (-(bS 1000 a (ca b b.length) a.length)) (aW a) else bb.no
theorem BP {b:F} {d c:ac} (a:ci b d=ak \/ b7 b c=ak):fB b d c=bb.no:=by
 rcases a with a | a<;>simp[fB,a]
theorem FU (g:F) (q P:aG) (m r K X:J) (b o:ac) (a:af) (B:an a q m b) (w:an a P K o):
  aC 168 #[am g q m r,aa P K X] a (aL #[ba #[M (em g b o).num,M (em g b o).den],aw (em g b o).ok]):=by
 have Z2:Below a.heap.size a ((a.alloc (al #[M g,aa q m r] 29)).alloc (al #[M 0,M 0] 55)):=(az a _).alloc ar _;have S:=B.below Z2;cases x:ci g b
 ·have G:U (em g b o=bb.no):=qY (bj x);go_enter func168,ntmps168;go_wp2_with fail;refine mZ ?_;refine dP ?_;intro j i c d e f l;clear i;exact wy
 ·cases y:b7 g o
  ·have G:U (em g b o=bb.no):=qY (aP y);go_enter func168,ntmps168;go_wp2_with fail;refine mZ ?_;rintro n j ⟨rfl,i⟩;refine fI ?_;intro c d e f;refine fg ?_;intro s t;refine e5 ?_;intro l;clear i;go_wp2_with fail;refine p3 ?_;rintro n z ⟨rfl,v⟩;refine hF ?_;intro e f c d A;clear v;exact wy
  ·obtain⟨R,Q⟩:=ub x;have u:=ab (js R Q y B.len w.len);have V:=ab u.o.lo;have G:U (em g b o=bv (bS 1000 b o m) (aW b)):=by show em g b o=_;unfold em;rw[x,y,B.len];rfl
   obtain⟨_,_,_,Z8,Z5,Z4,_⟩:=cv R;have W:=ab (mp 1000 E b o m u.o.xb (λ C H=>u.o.gb C (by rw[<- u.o.glen];exact H)) m aZ);have D:=u.o.n16;have T:K<=29:=by have:=u.o.m4;omega
   have N:U (∀C,C<m->0<=O b C /\ O b C<=1000000000000000):= λ C H=>by have:=u.o.xb C H;omega
   clear Q Z8;go_enter func168,ntmps168;go_wp2_with fail;refine mZ ?_;rintro n j ⟨rfl,i⟩;refine fI ?_;intro c d e f;refine fg ?_;intro s t;refine e5 ?_;intro l;clear i;go_wp2_with fail;refine p3 ?_;refine sI ?_;intro z v e f c d s t A;clear v;go_wp2;refine ei 5 ah ah (λ _ _ _ _ _ Y=>Y) ?_;refine dY ?_;repeat (first | go_big_quiet_step ((first | (go_at_call 282;exact aQ (np g _ _ _ _ _ _ b o _ ((B.below A).below (aM _ _)) ((w.below A).below (aM _ _)) D T u.o.xb u.o.gb)) | (go_at_call 157;exact aQ (gi g _ _ _ b _ ((B.below A).below (aM _ _)) N.o D)))) | quiet_step ((first | (go_at_call 282;exact aQ (np g _ _ _ _ _ _ b o _ ((B.below A).below (aM _ _)) ((w.below A).below (aM _ _)) D T u.o.xb u.o.gb)) | (go_at_call 157;exact aQ (gi g _ _ _ b _ ((B.below A).below (aM _ _)) N.o D)))))
   refine et ?_;intro L k;rw[V.o];have Z6:=W.o;refine oq ?_;intro e f c d;have Z9:=au A k;clear k;go_wp2_with fail;refine sT ?_;rintro n Z3 ⟨rfl,p⟩;refine h9 ?_;intro e f c d;have Z7:=au Z9 p;clear p;go_wp2;refine aK (v:=aL #[ba #[M (bv (bS 1000 b o m) (aW b)).num,M (bv (bS 1000 b o m) (aW b)).den],aw (bv (bS 1000 b o m) (aW b)).ok]) (by simp[aJ,results168,go_sem,c,d]) I ⟨?_,?_⟩
   ·rw[G.o]
   ·exact bB
theorem Ft (g:F) (q N:aG) (m r C W:J) (b o:ac) (a:af) (B:an a q m b) (w:an a N C o):
  aC 169 #[am g q m r,aa N C W] a (aL #[ba #[M (fB g b o).num,M (fB g b o).den],aw (fB g b o).ok]):=by
 have Y:Below a.heap.size a ((a.alloc (al #[M g,aa q m r] 29)).alloc (al #[M 0,M 0] 55)):=(az a _).alloc ar _;have S:=B.below Y;cases x:ci g b
 ·have H:U (fB g b o=bb.no):=BP (bj x);go_enter func169,ntmps169;go_wp2_with fail;refine mZ ?_;refine dP ?_;intro j i c d e f l;clear i;exact xf
 ·cases y:b7 g o
  ·have H:U (fB g b o=bb.no):=BP (aP y);go_enter func169,ntmps169;go_wp2_with fail;refine mZ ?_;rintro n j ⟨rfl,i⟩;refine fI ?_;intro c d e f;refine fg ?_;intro s t;refine e5 ?_;intro l;clear i;go_wp2_with fail;refine p3 ?_;rintro n z ⟨rfl,v⟩;refine hF ?_;intro e f c d A;clear v;exact xf
  ·obtain⟨Q,P⟩:=ub x;have u:=ab (js Q P y B.len w.len);have T:=ab u.o.hi;have H:U (fB g b o=bv (-(bS 1000 b (ca o C) m)) (aW b)):=by show fB g b o=_;unfold fB;rw[x,y,B.len,w.len];rfl
   obtain⟨_,_,_,Z8,Z5,Z4,_⟩:=cv Q;have V:=ab (u.o.hi_bd);have G:=u.o.n16;have R:C<=29:=by have:=u.o.m4;omega
   have K:U (∀D,D<m->0<=O b D /\ O b D<=1000000000000000):= λ D Z9=>by have:=u.o.xb D Z9;omega
   clear P Z8;go_enter func169,ntmps169;go_wp2_with fail;refine mZ ?_;rintro n j ⟨rfl,i⟩;refine fI ?_;intro c d e f;refine fg ?_;intro s t;refine e5 ?_;intro l;clear i;go_wp2_with fail;refine p3 ?_;refine sI ?_;intro z v e f c d s t A;clear v;go_wp2;refine ei 5 ah ah (λ _ _ _ _ _ X=>X) ?_;refine dY ?_;repeat (first | go_big_quiet_step ((first | (go_at_call 154;exact aQ (qv g _ _ _ _ _ _ b o _ ((B.below A).below (aM _ _)) ((w.below A).below (aM _ _)) G R u.o.xb u.o.gb)) | (go_at_call 157;exact aQ (gi g _ _ _ b _ ((B.below A).below (aM _ _)) K.o G)))) | quiet_step ((first | (go_at_call 154;exact aQ (qv g _ _ _ _ _ _ b o _ ((B.below A).below (aM _ _)) ((w.below A).below (aM _ _)) G R u.o.xb u.o.gb)) | (go_at_call 157;exact aQ (gi g _ _ _ b _ ((B.below A).below (aM _ _)) K.o G)))))
   refine et ?_;intro L k;rw[T.o];have Z6:=V.o;refine oq ?_;intro e f c d;have Z2:=au A k;clear k;go_wp2_with fail;refine sT ?_;rintro n Z3 ⟨rfl,p⟩;refine h9 ?_;intro e f c d;have Z7:=au Z2 p;clear p;go_wp2;refine aK (v:=aL #[ba #[M (bv (-(bS 1000 b (ca o C) m)) (aW b)).num,M (bv (-(bS 1000 b (ca o C) m)) (aW b)).den],aw (bv (-(bS 1000 b (ca o C) m)) (aW b)).ok]) (by simp[aJ,results169,go_sem,c,d]) I ⟨?_,?_⟩
   ·rw[H.o]
   ·exact bB
theorem MK {a b:F} (c:bH a b=ae): -1000000000<=a /\ a<=1000000000 /\ 1<=b /\ b<=1000000000:=by
 simp only[bH,b9,bM] at c;omega
end Go.Proofs.YtkjnhlpccgjfhaaGreatDoor
