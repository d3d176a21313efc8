/- A part of the proof: lemmas (my texts, shortened by a program of mine). -/
import Derived.OrdersHeld
import Derived.ArgAppend
import Derived.Test.YtkjnhlpccgjfhaaGreatDoorC09
set_option linter.all false
set_option maxRecDepth 100000
set_option maxHeartbeats 4000000
namespace Go.Proofs.YtkjnhlpccgjfhaaGreatDoor
open Go.RowKit
open Go.Proofs.Tryz
open _root_.Array renaming replicate->mJ,setIfInBounds_comm->rJ
open Bool renaming and_eq_true->b9,false->ak,true->ae
open Go renaming Calls->aY,Oper->bD,Value->ay,World->af,bodyPost_ret->aK,callFunc->b0,getD_set_ne->kc,ready_mono->ke,results->aJ,wpQuiet_nil->dn
open Go.Act renaming put->aT
open Go.BinOp renaming andNot->hZ
open Go.Ending renaming returned->aV
open Go.IntKind renaming i64->cz
open Go.IntWalk renaming i64_in->bV
open Go.Obj renaming cells->al
open Go.Oper renaming upon->jC
open Go.Region renaming Mode->hY,binds->jD,free_spec->nX,noSelect->kb,noSelect_spec->n2,ready->ef,wanted->jI
open Go.Sem renaming run->c9
open Go.Value renaming bool->aw,int->ed,ownBlock->lL,slice->aa,tuple->aL
open Go.World renaming cell?_setCell_other->c3,cell?_setCell_same->fZ,frozen?_setCell->pn,setCell->jc
open Go.World.ownsRow renaming cells->iN
open Int renaming le_refl->fE,toNat_natCast->cI
open List renaming getElem?_eq_getElem->fV,getElem?_map->jE,length_append->dm,length_cons->jG,range->cN,replicate->bE
open Nat renaming le_of_lt->h3,le_refl->bL,lt_of_lt_of_le->cm,lt_or_ge->hX
open Ne renaming symm->eA
open Option renaming none->aj,some->Z
open Or renaming inl->bj,inr->aP
open _root_ renaming Array->bg,Bool->a8,Int->F,List->aU,Nat->J,absurd->bC,beq_iff_eq->cR,decide_eq_false->iP,decide_eq_true->fW,if_neg->aF,if_pos->a7,rfl->I
variable {p q:Prop}
section
variable {P : Program} {md : hY} {ops : bg bD} {Q : Exit → Act → af → Prop} {S T : af → Prop} {p : J}
def de (P:Program) (md:hY) (ops:bg bD) (Q:Exit->Act->af->Prop) (S T:af->Prop) (p:J):J->bg a8->Act->af->Prop
 | 0,a,b,c=>ef md ops a=[] /\ Q .normal b c
 | g+1,a,b,c =>
  (ef md ops a=[]->Q .normal b c) /\
  ∀e∈ef md ops a,wpOp P ops Q e (λ f d=>(S d /\ ((a.setIfInBounds e ae).getD p ae=ak->T d)) /\ de P md ops Q S T p g (a.setIfInBounds e ae) f d) b c
theorem Bl:∀(a:J) (d:bg a8) (c:Act) (e:af),de P md ops Q S T p a d c e->wpAny P md ops Q a d c e
 | 0,_,_,_,b=>b
 | a+1,_,_,_,b=>⟨b.1,λ j i=>wpOp_mono (λ f h g=>Bl a _ f h g.2) (b.2 j i)⟩
theorem G9 {a:J} {l:bD} {D:ay} (B:ops[a]? =Z l) (N:∀(d:J) (R:bD) r q,ops[d]? =Z R->R.op≠.select r q)
  (Z7:∀E g f,Q (.panic E) (g.put l.dst D) f->Q (.panic E) g f) (Z6:a≠p) (Z1:∀U,ops[p]? =Z U->∃b∈U.after,jD md b=ae /\ b.on=a):
  ∀(s:J) (c:bg a8) (g:Act) (f:af),
   (∀d j,ops[d]? =Z j->d≠a->c.getD d ae=ak->(∀b∈j.after,jD md b=ae->b.on≠a)->l.apart ops j=ae) ->
   a∈ef md ops c->c.getD p ae=ak->YieldsIf P ops (λ f=>S f /\ T f) l D g->S f /\ T f ->
   de P md ops Q S T p s (c.setIfInBounds a ae) (g.put l.dst D) f->de P md ops Q S T p (s+1) c g f:=by
 intro s;induction s with
 | zero =>
  intro c g f _ e C w k o
  refine⟨λ A=>(by rw[A] at e;cases e),λ d u=>?_⟩
  by_cases h:d=a
  ·subst h;exact w.wpOp B k ⟨⟨k.1,λ _=>k.2⟩,o⟩
  ·have:=ke u h;rw[o.1] at this;cases this
 | succ s Z0 =>
  intro c g f G e C w k o
  refine⟨λ A=>(by rw[A] at e;cases e),λ d u=>?_⟩
  by_cases h:d=a
  ·subst h;exact w.wpOp B k ⟨⟨k.1,λ _=>k.2⟩,o⟩
  ·have i:=o.2 d (ke u h);obtain⟨K,j,v,W⟩:=mem_ready.1 u;have L:∀b∈j.after,jD md b=ae->b.on≠a:= λ b y x z=>by
    exact vE
   have ZZ:d≠p:=by
    intro b;subst b;obtain⟨b,y,x,z⟩:=Z1 j v;exact L b y x z
   have Z8:=wpOp_putIf v (G d j v h K L) (λ r q=>N a l r q B) (λ r q=>N d j r q v) Z7 w i;have Y:∀n t,ops[n]? =Z t->n≠a->(c.setIfInBounds d ae).getD n ae=ak ->
     (∀b∈t.after,jD md b=ae->b.on≠a)->l.apart ops t=ae:= λ n t Z5 Z4 O Z3=>by
    refine G n t Z5 Z4 ?_ Z3;by_cases H:d=n
    ·subst H;exact K
    ·rw[kc ae H] at O;exact O
   have Z2:(c.setIfInBounds d ae).getD p ae=ak:=by rw[kc ae ZZ];exact C
   have M:((c.setIfInBounds a ae).setIfInBounds d ae).getD p ae=ak:=by rw[kc ae ZZ,kc ae Z6];exact C
   refine wpOp_mono (λ X Z9 m=>⟨⟨m.2.1.1,λ _=>m.2.1.2 M⟩,Z0 (c.setIfInBounds d ae) X Z9 Y (ke e (eA h)) Z2 m.1 ⟨m.2.1.1,m.2.1.2 M⟩ ?_⟩) Z8;rw[rJ _ _ h];exact m.2.2
theorem GP {a:J} {k:bD} {E:ay} (B:ops[a]? =Z k) (M:∀(d:J) (O:bD) r q,ops[d]? =Z O->O.op≠.select r q)
  (Z9:∀G j h,Q (.panic G) (j.put k.dst E) h->Q (.panic G) j h) (C:a≠p):
  ∀(s:J) (c:bg a8) (j:Act) (h:af),
   (∀d l,ops[d]? =Z l->d≠a->c.getD d ae=ak->(∀b∈l.after,jD md b=ae->b.on≠a)->k.apart ops l=ae) ->
   a∈ef md ops c->YieldsIf P ops S k E j->S h->(c.getD p ae=ak->T h) ->
   de P md ops Q S T p s (c.setIfInBounds a ae) (j.put k.dst E) h->de P md ops Q S T p (s+1) c j h:=by
 intro s;induction s with
 | zero =>
  intro c j h _ e w t A o
  refine⟨λ f=>(by rw[f] at e;cases e),λ d v=>?_⟩
  by_cases g:d=a
  ·subst g;exact w.wpOp B t ⟨⟨t,λ f=>A (by rw[kc ae C] at f;exact f)⟩,o⟩
  ·have:=ke v g;rw[o.1] at this;cases this
 | succ s Z4 =>
  intro c j h H e w t A o
  refine⟨λ f=>(by rw[f] at e;cases e),λ d v=>?_⟩
  by_cases g:d=a
  ·subst g;exact w.wpOp B t ⟨⟨t,λ f=>A (by rw[kc ae C] at f;exact f)⟩,o⟩
  ·have i:=o.2 d (ke v g);obtain⟨K,l,D,W⟩:=mem_ready.1 v;have Z5:∀b∈l.after,jD md b=ae->b.on≠a:= λ b y x z=>by
    exact vE
   have Y:=wpOp_putIf D (H d l D g K Z5) (λ r q=>M a k r q B) (λ r q=>M d l r q D) Z9 w i;have U:∀n u,ops[n]? =Z u->n≠a->(c.setIfInBounds d ae).getD n ae=ak ->
     (∀b∈u.after,jD md b=ae->b.on≠a)->k.apart ops u=ae:= λ n u Z8 Z7 N Z6=>by
    refine H n u Z8 Z7 ?_ Z6;by_cases Z3:d=n
    ·subst Z3;exact K
    ·rw[kc ae Z3] at N;exact N
   have L:(c.setIfInBounds d ae).getD p ae=((c.setIfInBounds a ae).setIfInBounds d ae).getD p ae:=by
    rw[rJ _ _ (eA g),kc ae C]
   refine wpOp_mono (λ R X m=>⟨⟨m.2.1.1,λ f=>m.2.1.2 (by rw[<- L];exact f)⟩,Z4 (c.setIfInBounds d ae) R X U (ke e (eA g)) m.1 m.2.1.1 (λ f=>m.2.1.2 (by rw[<- L];exact f)) ?_⟩) Y;rw[rJ _ _ g];exact m.2.2
def C6 (md:hY) (ops:bg bD) (p b:J):a8:=match ops[p]? with
 | some c=>c.after.any λ a=>jD md a&&a.on==b
 | none=>ae
theorem bX {i:J} {d:bD} {v:ay} {e:J} {c:bg a8} {b:Act} {a:af} (g:ops[i]? =Z d)
  (q:kb ops=ae) (m:Region.free md ops c i=ae) (o:(ef md ops c).contains i=ae)
  (j:∀f b a,Q (.panic f) (b.put d.dst v) a->Q (.panic f) b a) (n:i≠p) (r:YieldsIf P ops S d v b) (k:S a) (l:c.getD p ae=ak->T a)
  (h:de P md ops Q S T p e (c.setIfInBounds i ae) (b.put d.dst v) a):de P md ops Q S T p (e+1) c b a :=
 GP g (n2 q) j n e c b a (nX g m) (by simpa using o) r k l h
theorem iZ {i:J} {e:bD} {v:ay} {f:J} {c:bg a8} {b:Act} {a:af} (j:ops[i]? =Z e)
  (w:kb ops=ae) (q:Region.free md ops c i=ae) (u:(ef md ops c).contains i=ae)
  (m:∀g b a,Q (.panic g) (b.put e.dst v) a->Q (.panic g) b a) (r:i≠p) (d:C6 md ops p i=ae) (t:c.getD p ae=ak) (x:YieldsIf P ops (λ a=>S a /\ T a) e v b) (n:S a /\ T a)
  (l:de P md ops Q S T p f (c.setIfInBounds i ae) (b.put e.dst v) a):de P md ops Q S T p (f+1) c b a :=
 G9 j (n2 w) m r (λ y s=>by
  unfold C6 at d;rw[s] at d;simp only[Array.any_eq_true'] at d;obtain⟨k,o,h⟩:=d;rw[b9,cR] at h;exact⟨k,o,h⟩) f c b a (nX j q) (by simpa using u) t x n l
theorem e7 (b:J) {f:bD} {h:J} {c:bg a8} {e:Act} {k:af} (r:ops[b]? =Z f) (j:ef md ops c=[b]) (s:jI f (yielded ops e.tmps)=ae)
  (l:∀g:Act->af->Prop,(∀d a,S a->((c.setIfInBounds b ae).getD p ae=ak->T a)->de P md ops Q S T p h (c.setIfInBounds b ae) d a->g d a)->Oper.wp P f e k g Q):de P md ops Q S T p (h+1) c e k:=by
 refine⟨λ m=>bC m (by rw[j];simp),λ t i=>?_⟩;rw[j] at i;obtain rfl:t=b:=by simpa using i
 unfold wpOp;simp only[r,s,if_true];exact Or.inl (l _ λ d a n o q=>⟨⟨n,o⟩,q⟩)
theorem tf {d:bg a8} {a:Act} {e:af} (c:ef md ops d=[]) (b:Q .normal a e):∀f,de P md ops Q S T p f d a e
 | 0=>⟨c,b⟩
 | _+1=>⟨λ _=>b,by rw[c];simp⟩
theorem gJ (S T:af->Prop) (p:J) {id:J} {b:Act} {a:af} (d:P.follows .mixedOrders=ae)
  (c:de P .any ops Q S T p ops.size (mJ ops.size ak) b {a with drawn:=a.drawn+1}):(Code.region id ops ae).wp P Q b a :=
 wp_region_any d (Bl _ _ _ _ c)
end
structure gf where
 V:J
 N:J
 G:J
 gc:J
 X:J
 xc:J
 L:J
 lc:J
 D:J
 dc:J
 R:J->J
 Y:J->J
structure gf.good (s:gf) (lo hi:J):Prop where
 N16:s.N<=16
 V:lo<=s.V /\ s.V<hi
 G:lo<=s.G /\ s.G<hi
 X:lo<=s.X /\ s.X<hi
 L:lo<=s.L /\ s.L<hi
 D:lo<=s.D /\ s.D<hi
 R:∀b,b<s.N->lo<=s.R b /\ s.R b<hi
 Y:∀b,b<s.N->lo<=s.Y b /\ s.Y b<hi
 LV:s.L≠s.V /\ s.L≠s.G /\ s.L≠s.X /\ s.L≠s.D
 DV:s.D≠s.V /\ s.D≠s.G /\ s.D≠s.X
 RV:∀b,b<s.N->s.R b≠s.V /\ s.R b≠s.G /\ s.R b≠s.X /\ s.R b≠s.L /\ s.R b≠s.D
 YV:∀b,b<s.N->s.Y b≠s.L /\ s.Y b≠s.D
 RY:∀b c,b<s.N->c<s.N->s.R b≠s.Y c
 RR:∀b c,b<s.N->c<s.N->b≠c->s.R b≠s.R c
theorem gf.good.mono {h:gf} {g f e d:J} (a:h.good g f) (i:e<=g) (j:f<=d):h.good e d :=
 ⟨a.N16,⟨by have:=a.V;omega,by have:=a.V;omega⟩,⟨by have:=a.G;omega,by have:=a.G;omega⟩,⟨by have:=a.X;omega,by have:=a.X;omega⟩,⟨by have:=a.L;omega,by have:=a.L;omega⟩,⟨by have:=a.D;omega,by have:=a.D;omega⟩,
  λ b c=>⟨by have:=a.R b c;omega,by have:=a.R b c;omega⟩,λ b c=>⟨by have:=a.Y b c;omega,by have:=a.Y b c;omega⟩,a.LV,a.DV,a.RV,a.YV,a.RY,a.RR⟩
structure O7 (s:gf) (w:af) (fl:J->J->F) (lf du:J->F):Prop where
 v0: w.cell? (ad s.V 0)=Z (aq s.G s.N s.gc)
 v1: w.cell? (ad s.V 1)=Z (aq s.X s.N s.xc)
 v2: w.cell? (ad s.V 2)=Z (aq s.L s.N s.lc)
 v3: w.cell? (ad s.V 3)=Z (aq s.D s.N s.dc)
 g:∀b,b<s.N-> w.cell? ⟨s.G,b,aj⟩=Z (aq (s.R b) s.N s.N)
 x:∀b,b<s.N-> w.cell? ⟨s.X,b,aj⟩=Z (aq (s.Y b) s.N s.N)
 y:∀b a,b<s.N->a<s.N-> w.cell? ⟨s.Y b,a,aj⟩=Z (aw ak)
 r:∀b a,b<s.N->a<s.N-> w.cell? ⟨s.R b,a,aj⟩=Z (M (fl b a)) /\ w.frozen? ⟨s.R b,a,aj⟩=ak
 l:∀b,b<s.N-> w.cell? ⟨s.L,b,aj⟩=Z (M (lf b)) /\ w.frozen? ⟨s.L,b,aj⟩=ak
 d:∀a,a<s.N-> w.cell? ⟨s.D,a,aj⟩=Z (M (du a)) /\ w.frozen? ⟨s.D,a,aj⟩=ak
theorem O7.block {p:gf} {n i:af} {r:J->J->F} {t q:J->F} {m l:J} (d:O7 p n r t q) (e:p.good m l) (s:∀a,m<=a->a<l->i.heap[a]? =n.heap[a]?):O7 p i r t q:=by
 have f:∀a g,m<=a /\ a<l-> i.cell? ⟨a,g,aj⟩= n.cell? ⟨a,g,aj⟩:= λ a g h=>eR (s a h.1 h.2)
 have o:∀a g,m<=a /\ a<l-> i.frozen? ⟨a,g,aj⟩= n.frozen? ⟨a,g,aj⟩:= λ a g h=>gK (s a h.1 h.2)
 exact⟨(f _ _ e.V).trans d.v0,(f _ _ e.V).trans d.v1,(f _ _ e.V).trans d.v2,(f _ _ e.V).trans d.v3,λ b c=>(f _ _ e.G).trans (d.g b c),λ b c=>(f _ _ e.X).trans (d.x b c),λ b j c k=>(f _ _ (e.Y b c)).trans (d.y b j c k),
  λ b j c k=>⟨(f _ _ (e.R b c)).trans (d.r b j c k).1,(o _ _ (e.R b c)).trans (d.r b j c k).2⟩,λ b c=>⟨(f _ _ e.L).trans (d.l b c).1,(o _ _ e.L).trans (d.l b c).2⟩,λ b c=>⟨(f _ _ e.D).trans (d.d b c).1,(o _ _ e.D).trans (d.d b c).2⟩⟩
theorem O7.below {a:gf} {f w':af} {c:J->J->F} {e b:J->F} {k d B:J} (g:O7 a f c e b) (i:a.good k d) (h:Below B f w') (l:d<=B):O7 a w' c e b:=g.block i λ j _ m=>h.block j E
theorem O7.drew {a:gf} {e:af} {c:J->J->F} {d b:J->F} {i h:J} (f:O7 a e c d b) (g:a.good i h):O7 a e.drew c d b:=f.block g λ _ _ _=>rfl
theorem O7.congr {e:gf} {k:af} {h f:J->J->F} {j g lf' du':J->F} (b:O7 e k h j g) (l:∀a d,a<e.N->d<e.N->f a d=h a d) (m:∀a,a<e.N->lf' a=j a) (n:∀a,a<e.N->du' a=g a):O7 e k f lf' du' :=
 ⟨b.v0,b.v1,b.v2,b.v3,b.g,b.x,b.y,λ a d c i=>by rw[l a d c i];exact b.r a d c i,λ a c=>by rw[m a c];exact b.l a c,λ a c=>by rw[n a c];exact b.d a c⟩
theorem uS (d:af) (c:Addr) (f:ay) (a b:J) (e:a≠c.block):(d.setCell c f).cell? ⟨a,b,aj⟩= d.cell? ⟨a,b,aj⟩:=eR (Below.heap_setCell _ _ _ _ e)
theorem O7.setR {f:gf} {l:af} {u:J->J->F} {v t:J->F} {A y:J} (c:O7 f l u v t) (s:f.good A y) {d k:J} (r:d<f.N) (G:k<f.N) (n:F):O7 f (l.setCell ⟨f.R d,k,aj⟩ (M n)) (hU u d k n) v t:=by
 have e:∀g i,g≠f.R d->(l.setCell ⟨f.R d,k,aj⟩ (M n)).cell? ⟨g,i,aj⟩= l.cell? ⟨g,i,aj⟩:= λ g i z=>uS _ _ _ _ _ z
 have q:∀g i,(l.setCell ⟨f.R d,k,aj⟩ (M n)).frozen? ⟨g,i,aj⟩= l.frozen? ⟨g,i,aj⟩:= λ g i=>pn _ _ _ _
 obtain⟨m,B,C,D,E⟩:=s.RV d r;refine⟨(e _ _ (eA m)).trans c.v0,(e _ _ (eA m)).trans c.v1,(e _ _ (eA m)).trans c.v2,(e _ _ (eA m)).trans c.v3,λ a b=>(e _ _ (eA B)).trans (c.g a b),λ a b=>(e _ _ (eA C)).trans (c.x a b),λ a h b j=>(e _ _ (eA (s.RY d a r b))).trans (c.y a h b j),
  λ a h b j=>⟨?_,(q _ _).trans (c.r a h b j).2⟩,λ a b=>⟨(e _ _ (eA D)).trans (c.l a b).1,(q _ _).trans (c.l a b).2⟩,λ a b=>⟨(e _ _ (eA E)).trans (c.d a b).1,(q _ _).trans (c.d a b).2⟩⟩
 by_cases o:a=d
 ·subst o;by_cases p:h=k
  ·subst p;rw[kA];exact fZ _ _ _ (c.r a h b j).1
  ·rw[gp _ (Or.inr p),c3 _ _ _ _ (by intro w;injection w with _ x;exact p x.symm)];exact(c.r a h b j).1
 ·rw[gp _ (Or.inl o),e _ _ (s.RR a d b r o)];exact(c.r a h b j).1
theorem O7.setL {f:gf} {i:af} {r:J->J->F} {s q:J->F} {x v:J} (c:O7 f i r s q) (p:f.good x v) {h:J} (B:h<f.N) (m:F):O7 f (i.setCell ⟨f.L,h,aj⟩ (M m)) r (λ d=>if d=h then m else s d) q:=by
 have e:∀d g,d≠f.L->(i.setCell ⟨f.L,h,aj⟩ (M m)).cell? ⟨d,g,aj⟩= i.cell? ⟨d,g,aj⟩:= λ d g w=>uS _ _ _ _ _ w
 have o:∀d g,(i.setCell ⟨f.L,h,aj⟩ (M m)).frozen? ⟨d,g,aj⟩= i.frozen? ⟨d,g,aj⟩:= λ d g=>pn _ _ _ _
 obtain⟨l,y,z,A⟩:=p.LV;refine⟨(e _ _ (eA l)).trans c.v0,(e _ _ (eA l)).trans c.v1,(e _ _ (eA l)).trans c.v2,(e _ _ (eA l)).trans c.v3,λ a b=>(e _ _ (eA y)).trans (c.g a b),λ a b=>(e _ _ (eA z)).trans (c.x a b),λ a j b k=>(e _ _ (p.YV a b).1).trans (c.y a j b k),
  λ a j b k=>⟨(e _ _ (p.RV a b).2.2.2.1).trans (c.r a j b k).1,(o _ _).trans (c.r a j b k).2⟩,λ a b=>⟨?_,(o _ _).trans (c.l a b).2⟩,λ a b=>⟨(e _ _ (eA A)).trans (c.d a b).1,(o _ _).trans (c.d a b).2⟩⟩
 by_cases n:a=h
 ·subst n;rw[a7 rfl];exact fZ _ _ _ (c.l a b).1
 ·rw[aF n,c3 _ _ _ _ (by intro t;injection t with _ u;exact n u.symm)];exact(c.l a b).1
theorem O7.setD {f:gf} {i:af} {r:J->J->F} {s q:J->F} {x v:J} (c:O7 f i r s q) (l:f.good x v) {h:J} (A:h<f.N) (n:F):O7 f (i.setCell ⟨f.D,h,aj⟩ (M n)) r s (λ d=>if d=h then n else q d):=by
 have e:∀d g,d≠f.D->(i.setCell ⟨f.D,h,aj⟩ (M n)).cell? ⟨d,g,aj⟩= i.cell? ⟨d,g,aj⟩:= λ d g w=>uS _ _ _ _ _ w
 have p:∀d g,(i.setCell ⟨f.D,h,aj⟩ (M n)).frozen? ⟨d,g,aj⟩= i.frozen? ⟨d,g,aj⟩:= λ d g=>pn _ _ _ _
 obtain⟨m,y,z⟩:=l.DV;refine⟨(e _ _ (eA m)).trans c.v0,(e _ _ (eA m)).trans c.v1,(e _ _ (eA m)).trans c.v2,(e _ _ (eA m)).trans c.v3,λ a b=>(e _ _ (eA y)).trans (c.g a b),λ a b=>(e _ _ (eA z)).trans (c.x a b),λ a j b k=>(e _ _ (l.YV a b).2).trans (c.y a j b k),
  λ a j b k=>⟨(e _ _ (l.RV a b).2.2.2.2).trans (c.r a j b k).1,(p _ _).trans (c.r a j b k).2⟩,λ a b=>⟨(e _ _ l.LV.2.2.2).trans (c.l a b).1,(p _ _).trans (c.l a b).2⟩,λ a b=>⟨?_,(p _ _).trans (c.d a b).2⟩⟩
 by_cases o:a=h
 ·subst o;rw[a7 rfl];exact fZ _ _ _ (c.d a b).1
 ·rw[aF o,c3 _ _ _ _ (by intro t;injection t with _ u;exact o u.symm)];exact(c.d a b).1
def e4 (f:af) (g:J) (h:ay) (c:ac):Prop :=
 ∃b e d,h=aa (Z ⟨b,e,aj⟩) c.length d /\ c.length<=d /\ d<=maxLen /\ g<=b /\ b<f.heap.size /\ (∀a,a<c.length-> f.cell? ⟨b,e+a,aj⟩=Z (M (O c a))) /\
  ∀a,c.length<=a->a<d->(f.cell? ⟨b,e+a,aj⟩).isSome=ae /\ f.frozen? ⟨b,e+a,aj⟩=ak
theorem e4.below {f w':af} {o B:J} {r:ay} {q:ac} (s:e4 f o r q) (c:Below B f w') (t:f.heap.size<=B):e4 w' o r q:=by
 obtain⟨b,p,i,a,j,k,l,e,m,n⟩:=s;have d:=c.block b E;exact wb
theorem e4.grown {t o:af} {f q:J} {s:ay} {r:ac} (u:e4 t f s r) (c:t.grownBy o (Z q)) (w:q<f):e4 o f s r:=by
 obtain⟨b,p,i,a,j,k,l,e,m,n⟩:=u;have d:=c.block b e (by intro a;injection a with a;omega);exact wb
theorem e4.own {e:af} {c:J} {d:ay} {i:ac} (f:e4 e c d i):∀a,d.ownBlock=Z a->c<=a /\ a<e.heap.size:=by
 obtain⟨k,n,j,rfl,l,m,g,h,_⟩:=f;intro a b;injection b with b;subst b;exact⟨g,h⟩
theorem av.same {g e:af} {f:J} {c:ay} {h:ac} (a:av g f c h) (d:∀b,c.ownBlock=Z b->e.heap[b]? =g.heap[b]?):av e f c h:=by
 exact sd
theorem e4.tail {h:af} {k c a g d:J} {p:F} {e:ac} (v:e4 h k (aa (Z ⟨c,a,aj⟩) g d) (p::e)):g=e.length+1 /\ g<=d /\ h.cell? ⟨c,a,aj⟩=Z (M p) /\ e4 h k (aa (Z ⟨c,a+1,aj⟩) (g-1) (d-1)) e /\ (d=1->e4 h k (aa (Z ⟨c,a,aj⟩) 0 0) e):=by
 obtain⟨y,z,x,q,l,A,m,n,j,o⟩:=v;injection q with i r s;injection i with i;injection i with t u
 subst t u r s;simp only[jG] at l j o ⊢;refine⟨by first | rfl | trivial,l,?_,⟨c,a+1,d-1,ar,E,E,m,n,λ b f=>?_,λ b f w=>?_⟩,λ w=>?_⟩
 ·have:=j 0 E;simpa [O] using this
 ·have:=j (b+1) E;rw[show a+(b+1)=a+1+b from E] at this;simpa [O] using this
 ·have:=o (b+1) E E;rw[show a+(b+1)=a+1+b from E] at this;exact this
 ·obtain rfl:e=[]:=List.eq_nil_of_length_eq_zero E;exact⟨c,a,0,I,bL _,by unfold maxLen;omega,m,n,λ b f=>by simp at f,λ b _ f=>E⟩
theorem Mt (b:ac) (e:F) (a:J):O (b++[e]) a=if a<b.length then O b a else if a=b.length then e else 0:=by
 by_cases c:a<b.length
 ·rw[a7 c,cK _ _ (by simp;omega),cK _ _ c,List.getElem_append_left c]
 ·rw[aF c];by_cases d:a=b.length
  ·subst d;rw[a7 rfl,cK _ _ ar];simp
  ·rw[aF d,nG _ _ (by simp;omega)]
theorem DW {f:af} {S:bg bD} {rest:aU bD} {k:bD} {t:Act} {G:Exit->Act->af->Prop} (Z0:k.guard=aj) (T U:Operand)
  (ZY:k.op=.call {callee:=.builtin .append,args:=#[T,U],argTypes:=#[27,27]})
  (x:J) (D:ay) (c:ac) (ZV:t.eval T=D) (m:e4 f x D c)
  (l:Addr) (u:J) (e:F) (ZU:t.eval U=aa (Z l) 1 u) (o: f.cell? l=Z (M e))
  (ZH:c.length<1000000) (ZI:x<=f.heap.size)
  (Z7:∀g d,e4 d x g (c++[e])->f.grownBy d D.ownBlock->wpList prog S G rest (t.put k.dst g) d):
  wpList prog S G (k::rest) t f:=by
 obtain⟨P,L,ZT,r,ZS⟩:=info_parts ig;obtain⟨i,n,p,rfl,ZJ,Z6,Z5,Z4,H,K⟩:=m;refine wpList_plain Z0 λ ZK Z3=>?_
 have N:∀b h,[M e][b]? =Z h-> f.cell? (l.add b)=Z h:=by
  intro b h a;exact mN
 have ZX:∀h∈[M e],h.oneCell'=ae:=by intro h w;simp at w;subst w;rfl
 have ZQ:∃g d,(Builtin.append_ #[27,27] k.type #[aa (Z ⟨i,n,aj⟩) c.length p,aa (Z l) 1 u]).run prog f=.ok g d /\ e4 d x g (c++[e]) /\ f.grownBy d (Z i):=by
  by_cases ZW:c.length+1<=p
  ·obtain⟨R,ZR⟩:=K c.length aZ E;have j:=run_append_room_cells (P:=prog) f 27 k.type 3 P underlying27 L i n c.length p l 1 u [M e] (by rw[r];rfl) N ZX ZW (λ b a=>by simp at a;subst a;rw[r];simpa using R) (λ b a=>by simp at a;subst a;rw[r];simpa using ZR);rw[r,Nat.mul_one] at j;have Z9:f.setCells i (n+c.length) [M e]=f.setCell ⟨i,n+c.length,aj⟩ (M e):=by simp[World.setCells]
   rw[Z9] at j;obtain⟨h,w⟩:=Option.isSome_iff_exists.1 R;refine⟨_,_,j,⟨i,n,p,ar,by simp;omega,Z6,Z5,by simp[jc];exact Z4,λ b a=>?_,λ b a Z2=>?_⟩,⟨I,I,I,by simp[jc],λ Q _ B=>Below.heap_setCell _ _ _ _ (by intro v;exact B (by rw[v]))⟩⟩
   ·rw[Mt];simp at a;by_cases q:b<c.length
    ·rw[a7 q,c3 _ _ _ _ (by intro z;injection z with _ Z8;omega)];exact H b q
    ·obtain rfl:b=c.length:=E;rw[aF q,a7 rfl];exact fZ _ _ _ w
   ·simp at a;rw[c3 _ _ _ _ (by intro z;injection z with _ Z8;omega),pn];exact K b E Z2
  ·obtain⟨g,d,j,C,s⟩:=run_append_arg_grows (P:=prog) f 27 k.type 3 P (M 0) 1 8 underlying27 L ZT r ZS I aX ⟨i,n,aj⟩ c.length p (c.map (ed .i64)) ar (λ b h a=>by
    rw[Addr.add_lit];rw[jE] at a;cases m:c[b]? with
    | none=>rw[m] at a;simp at a
    | some ZF =>
     rw[m] at a;simp at a;subst a
     have q:=(List.getElem?_eq_some_iff.1 m).1
     rw[H b q];unfold O;simp[m]) l 1 u [M e] ar N E (by unfold maxLen;omega) E
   rw[show c.map (ed .i64)++[M e]=(c++[e]).map (ed .i64) from ar] at C
   refine⟨g,d,j,?_,⟨s.os,s.tape,s.output,s.size,λ Q B _=>s.block Q B ar⟩⟩
   have ZP:=C
   rcases C.2 with ⟨_,ZG⟩ | ⟨y,V,Y,rfl,ZO,A,ZN,W,ZM,ZL⟩
   ·omega
   ·have Z1:∀b,d.cell? (ad y b)=Y[b]? := λ b=>by simp[World.cell?,A]
    refine⟨y,0,V,ar,by simp;omega,W,E,lt_of_block A,λ b a=>?_,λ b _ a=>?_⟩
    ·have v:=iN ZP (g:=y) I b (M (O (c++[e]) b)) (by rw[jE,fV a,cK _ _ a];rfl);rw[Addr.add_lit] at v;exact v
    ·rw[Nat.zero_add,Z1];refine⟨by rw[Array.getElem?_eq_getElem E];rfl,?_⟩;simp[World.frozen?,A]
 obtain⟨g,d,j,X,ZZ⟩:=ZQ;unfold Oper.wp;simp[execOp,ZY,resolve,invoke,builtin,ZV,ZU,j,Result.andThen];exact Z3 _ _ (Z7 g d X ZZ)
theorem AA:∀b a:Fin 16,(bits hZ cz ((a.val:J):F) ((b.val:J):F)==0)=bY a.val b.val:=cS
theorem oC (c:gf) (q o:J) (a b:J) (f:af) (m:J->J->F) (p k:J->F) (d:O7 c f m p k) (A:c.good q o) (g:a<c.N) (n:b<c.N):
  aY prog 387 #[br c.V,M a,M b] f λ l j=>l=aV (aw (bY b a)) /\ f=j:=by
 have v:=A.N16;have e:=AA ⟨a,E⟩ ⟨b,E⟩;simp only at e;have y:(0:F)<=(a:F):=E;have z:(a:F)<(c.N:F):=E;have w:(0:F)<=(b:F):=E;have x:(b:F)<(c.N:F):=E;have s:=d.v1;have t:=d.x a g;have u:=d.y a b g n;clear d A;cases i:bY b a with
 | false =>
  rw[i] at e
  go_enter func387,ntmps387
  go_wp2
  go_ret
  exact⟨I,I⟩
 | true =>
  rw[i] at e
  generalize c.Y a=r at *
  go_enter func387,ntmps387
  go_wp2
  go_ret
  exact⟨I,I⟩
theorem uT {r:J->J->a8} {b:J} {e k:J->F} {g f:J->J->F} {q l:J->F} (h:dV r b e k g q l) (m:∀a,a<b->e a<=1000000000000) (j:∀a c,a<b->c<b->0<=f a c) (o:∀a,a<b->bu (f a) b=bu (g a) b) {a c:J} (d:a<b) (i:c<b):0<=f a c /\ f a c<=1000000000000:=by
 have s:=oH (f:=f a) (λ p n=>j a p d n) i;have t:=o a d;have u:=h.row a d;have v:=h.lf0 a d;have w:=m a d;exact⟨j a c d i,E⟩
theorem Mu (c:gf) (Z7 H:J) (g r Z5 YN Z4 YM:J) (G:F) (n p:ac) (Zr:J->J) (ZH Zo:J->F) (B:af) (j:J->J->F) (x u:J->F) (D:O7 c B j x u) (Y6:c.good Z7 H) (YF:H<=B.heap.size) (ZZ:dV bY c.N ZH Zo j x u) (ZC:∀b,b<c.N->ZH b<=1000000000000)
  (Ze:∀e,e<c.N-> B.cell? (ad Z5 e)=Z (M (O n e))) (Zd:∀e,e<c.N-> B.cell? (ad Z4 e)=Z (M (O p e))) (ZE:H<=Z5) (ZD:H<=Z4)
  (Y4:gd bY c.N g j (O n) (O p) Zr) (Y8:r<c.N) (Y7:0<=O n r) (YE:0<G) (Yp:G<=x g) (Yq:G<=u r) (Zz:g<c.N):
  aY prog 377 #[br c.V,M g,M r,aq Z5 c.N YN,aq Z4 c.N YM,M G] B
   λ YK Zp=>(∃(a:F) (Zq:J->J->F),YK=aV (M a) /\ 0<a /\ a<=G /\ O7 c Zp Zq x u /\ dV bY c.N ZH Zo Zq (λ b=>if b=g then x b-a else x b) (λ m=>if m=r then u m-a else u m)) /\ aA Z7 H B Zp:=by
 have Yr:G<=1000000000000:=by have:=ZZ.row g Zz;have:=ZC g Zz;have:=mr (f:=j g) (n:=c.N) (λ e Z9=>ZZ.nn g e Zz Z9);omega
 have P:=ab ZZ;have Z1:=ab Y4;have ZK:=ab D;have V:=ab Y6;have W:=ab Ze;have X:=ab Zd;have ZL:=ab ZC;have Zm:=ab Y7;have YO:=D.v0;clear ZZ Y4 D Y6 Ze Zd ZC Y7;go_enter func377,ntmps377;go_wp2;go_loopw [5,13,14] (λ Yw m b wr=>ap B wr /\ ∃(l:J) (a:F),m=M l /\ Yw=M a /\ l<c.N /\ 0<=O n l /\ 0<a /\ a<=G /\ U (∀s:F,s<=a->eZ g j (O n) (O p) s l->eZ g j (O n) (O p) s r)) (λ _ m _ _=>Zr (intOf m).toNat)
 case atStart=>exact⟨Below.refl _ _,r,G,I,I,Y8,Zm.o,YE,E,λ _ _ C=>C⟩
 case round =>
  obtain⟨o,l,a,rfl,rfl,w,ZW,YB,YD,ZM⟩:=hrel;have YI:=o.size;obtain⟨b,q⟩:∃b:J,O n l=(b:F):=⟨(O n l).toNat,E⟩;obtain⟨f,ZN,K,y⟩:=Z1.o l w ZW;rw[q] at f ZN K y;simp only[cI] at f K y;have Q:=ag o (W.o l w);have R:=ag o (X.o b f);have Z0:=ag o (ZK.o.g b f);have ZF:=ag o YO;rw[q] at Q;have Za:(0:F)<=(l:F):=E;have Y9:(l:F)<(c.N:F):=E;have Zc:(0:F)<=(b:F):=E;have Zb:(b:F)<(c.N:F):=E;by_cases v:b=g
  ·have Y5:U (eZ g j (O n) (O p) a r):=ZM.o a (fE _) (.stop l (by rw[q];simpa using v));have Zk:=ab (jd.init P.o Y5.o Y8 Zm.o);have Zn:=ab o;have Yz:=o.size;have N:=ab (ZK.o.below V.o o YF);have YX:U (∀e,e<c.N-> wr.cell? (ad Z5 e)=Z (M (O n e))):= λ e Z9=>ag o (W.o e Z9)
   have YW:U (∀e,e<c.N-> wr.cell? (ad Z4 e)=Z (M (O p e))):= λ e Z9=>ag o (X.o e Z9)
   obtain⟨Yl,rfl⟩:∃Yv:af,Yv=wr:=⟨_,I⟩;go_wp2;go_loopw [15,16] (λ m b wr=>aA Z7 H B wr /\ ∃(l:J) (z:J->J->F),m=M l /\ O7 c wr z x u /\ U (jd bY c.N g r j (O n) (O p) a l z)) (λ m _ _=>Zr (intOf m).toNat)
   case atStart=>exact⟨aA.of_below Zn.o,r,j,I,N.o,Zk⟩
   case round =>
    clear q f ZN K y Q R Z0 ZF Za Y9 Zc Zb v Y5 Zk Zn N YX YW o YI w ZW Yz;obtain⟨ZT,k,z,rfl,D,t⟩:=hrel;obtain⟨w,ZW⟩:=t.o.cur0;obtain⟨i,q⟩:∃b:J,O n k=(b:F):=⟨(O n k).toNat,E⟩;obtain⟨f,ZN,K,y⟩:=Z1.o k w ZW;rw[q] at f ZN K y;simp only[cI] at f K y;have Q:=aA.keep ZT (W.o k w) (Or.inr ZE);have R:=aA.keep ZT (X.o i f) (Or.inr ZD);rw[q] at Q;have Z3:=ab q;have Z0:=D.g i f;have ZF:=D.v0;obtain⟨Zs,YZ⟩:=D.r i k f w;have Za:(0:F)<=(k:F):=E;have Y9:(k:F)<(c.N:F):=E;have Zc:(0:F)<=(i:F):=E;have Zb:(i:F)<(c.N:F):=E;have Y3:=uT P.o ZL.o t.o.nn t.o.row f w;have ZV:=D.setR V.o f w (z i k+a);have ZY:=V.o.R i f;obtain⟨L,Zx⟩:∃L,z i k=L:=⟨_,I⟩;have ZI:=ab Zx;obtain⟨Y,ZB⟩:∃e,c.R i=e:=⟨_,I⟩;have YS:=ab ZB;rw[Zx] at Zs Y3 ZV;rw[ZB] at Zs YZ Z0 ZV ZY;have Yo:IntKind.i64.wrap (L+a)=L+a:=bV _ E;have N:=ab ZV;clear Zx ZB D ZV q K;by_cases v:i=g
    ·have YU:=ab (t.o.last P.o Z1.o E (by rw[Z3.o,v]) E E (lf':= λ b=>if b=g then x b-a else x b) (du':= λ m=>if m=r then u m-a else u m) (λ _=>rfl) (λ _=>rfl));have YQ:U (O7 c (wr.setCell ⟨Y,k,aj⟩ (M (L+a))) (hU z g k (z g k+a)) x u):=by
      have C:=N.o;rw[<- ZI.o,v] at C;rw[<- ZI.o,v];exact C
     have YR:U (aA Z7 H B (wr.setCell ⟨Y,k,aj⟩ (M (L+a)))):=aA.trans ZT (aA.set ZY);clear y N t;subst v;go_wp2;go_ret;exact⟨⟨a,_,I,YB,YD,YQ.o,YU.o.2⟩,YR.o⟩
    ·obtain⟨Zu,Zt,Z6,ZQ,S⟩:=y v;obtain⟨d,A⟩:∃d:J,O p i=(d:F):=⟨(O p i).toNat,E⟩;obtain⟨Ym,Zv,Yy,Yx,Y2,Y1⟩:=t.o.step Z1.o E Z3.o v A;rw[A] at R;have YA:=uT P.o ZL.o t.o.nn t.o.row f Zv;have YH:(0:F)<=(d:F):=E;have YG:(d:F)<(c.N:F):=E;have YT:=ab Y1;have ZJ:=ab Y2;obtain⟨ZO,ZR⟩:∃ZG,wr.setCell ⟨Y,k,aj⟩ (M (L+a))=ZG:=⟨_,I⟩;have ZS:aA Z7 H B ZO:=by rw[<- ZR];exact aA.trans ZT (aA.set ZY)
     have Z8:O7 c ZO (hU z i k (L+a)) x u:=by rw[<- ZR];exact N.o
     have Zi:=aA.keep ZS (W.o k w) (Or.inr ZE);have Zg:=aA.keep ZS (X.o i f) (Or.inr ZD);rw[Z3.o] at Zi;rw[A] at Zg;have Zj:=Z8.g i f;have YL:=Z8.v0;obtain⟨ZP,Y0⟩:=Z8.r i d f Zv;rw[gp _ (Or.inr Yy)] at ZP;have ZU:=Z8.setR V.o f Zv (z i d-a);obtain⟨T,Zw⟩:∃T,z i d=T:=⟨_,I⟩;have YP:=ab Zw;rw[Zw] at ZP Yx YA ZU;rw[YS.o] at ZP Y0 Zj ZU;have Yn:IntKind.i64.wrap (T-a)=T-a:=bV _ E;have Z2:U (aA Z7 H B ((ZO.setCell ⟨Y,d,aj⟩ (M (T-a))).drew)):=aA.trans ZS (aA.trans (aA.set ZY) (aA.of_below (bI _)));have Zl:=ab (ZU.drew V.o);have Zh:=aA.keep Z2.o (W.o k w) (Or.inr ZE);have Zf:=aA.keep Z2.o (X.o i f) (Or.inr ZD);rw[Z3.o] at Zh;rw[A] at Zf;clear Zw A Zu Zt Z6 ZQ S y Y2 Y1 Z8 ZU N ZS;go_wp2
     (try rw[ZR]);clear Zs YZ Q R Z0 ZF ZR;go_big_region;obtain⟨Yj,Zy⟩:∃ZG,(ZO.setCell ⟨Y,d,aj⟩ (M (T-a))).drew=ZG:=⟨_,I⟩;rw[Zy] at Z2 Zl Zh Zf;rw[Zy];clear Zi Zg Zj YL ZP Y0 Zy;go_wp2;go_roundw
     case rel=>exact⟨Z2.o,d,_,I,by have C:=Zl.o;rw[<- ZI.o,<- YP.o] at C;exact C,YT⟩
     case measure=>simp[intOf];exact ZJ.o
  ·obtain⟨Zu,Zt,Z6,ZQ,S⟩:=y v;obtain⟨d,A⟩:∃d:J,O p b=(d:F):=⟨(O p b).toNat,E⟩;rw[A] at Zu Zt Z6 ZQ S R;simp only[cI] at Z6 ZQ S;have ZA:d<c.N:=E;have Yu:=ag o (ZK.o.r b d f ZA).1;have YH:(0:F)<=(d:F):=E;have YG:(d:F)<(c.N:F):=E;have YV:U (∀s:F,s<=(if j b d<a then j b d else a)->eZ g j (O n) (O p) s d->eZ g j (O n) (O p) s r):= λ s YY C=>by
    have YC:s<=a /\ s<=j b d:=by split at YY<;>omega
    refine ZM.o s YC.1 (.step l (by rw[q];simpa using v) ?_ ?_)
    ·rw[q];simp only[cI];rw[A];simp only[cI];omega
    ·rw[q];simp only[cI];rw[A];simp only[cI];exact C
   have t:=ab (show 0<(if j b d<a then j b d else a) /\ (if j b d<a then j b d else a)<=G by split<;>omega);have Y3:=uT P.o ZL.o P.o.nn (λ _ _=>rfl) f ZA;generalize c.R b=Y at *;generalize j b d=L at *;have ZJ:=ab S;clear y K S ZM q A;go_wp2;refine cC ?_;repeat (first | go_big_quiet_step ((fail)) | quiet_step ((fail)))
   refine dn ?_;refine dg ?_;intro Yk ZX;have Ys:=ag ZX R;have Yt:=ag ZX Q;have YJ:=au o ZX;clear ZX o;go_wp2;go_roundw
   case rel=>exact⟨YJ,d,_,I,I,ZA,Z6,t.o.1,t.o.2,YV⟩
   case measure=>simp[intOf];exact ZJ.o
def pj:Option ay->F
 | some (.int _ a)=>a
 | _=>0
def ph (d:af) (b a:J):J:=io ((cN a).map λ c=>pj (d.cell? (ad b c)))
theorem Bq {f:af} {e b:J} {d:ac} (h:d.length=b) (g:∀a,a<b-> f.cell? (ad e a)=Z (M (O d a))):ph f e b=io d:=by
 unfold ph;congr 1;refine kI _ _ (by simp[h]) λ a c=>?_
 simp at c;rw[cK _ _ (by simpa using c)];simp[g a c,pj]
def pr:ay->J
 | .slice _ a _=>a
 | _=>0
theorem e4.lenV {e:af} {d:J} {b:ay} {a:ac} (c:e4 e d b a):pr b=a.length:=by
 obtain⟨g,h,f,rfl,_⟩:=c;rfl
theorem qr {d:af} {f b c g:J} {e:ac} (h:av d f (aq b c g) e):∀a,a<c-> d.cell? (ad b a)=Z (M (O e a)):= λ a i=>(h.cellAt i).1
def N8 (b:gf) (h o:J) (n:J->J->F) (l:J->F) (m:Ending) (f:af):Prop :=
 ∃(c j d k e:J) (g i:ac) (p:J->J),m=aV (aL #[aq c b.N j,aq d b.N k,M e]) /\ e<b.N /\ h<=c /\ h<=d /\ c<f.heap.size /\ d<f.heap.size /\
  (∀a,a<b.N-> f.cell? (ad c a)=Z (M (O g a))) /\ (∀a,a<b.N-> f.cell? (ad d a)=Z (M (O i a))) /\ gd bY b.N o n (O g) (O i) p /\ 0<=O g e /\ 0<l e
theorem MQ (a:gf) (ZV Z3:J) (r:J) (ZA:FuncId) (YF:bg ay) (YJ YS:J->F) (f:af) (q:J->J->F) (W p:J->F) (Zd:O7 a f q W p) (Ze:a.good ZV Z3) (ZI:Z3<=f.heap.size) (YB:dV bY a.N YJ YS q W p)
  (W9:∀(Yl:bg ay) (k:af),c9 prog (b0 ZA Yl) k=.ok (.enter ZA Yl) k)
  (Yp:∀(ZN:J) (k:af),ap f k->ZN<a.N->aY prog ZA (#[M ZN]++YF) k λ c X0=>c=aV (aw (decide (0<p ZN))) /\ k=X0)
  (Yy:r<a.N) (Zu:0<W r):
  aY prog 375 #[br a.V,M r,.func (.func ZA) #[] YF] f
   λ c k=>(N8 a f.heap.size r q p c k \/ (∃XC XB,c=aV (aL #[XC,XB,M (-1)]) /\ ¬jb bY a.N YJ YS)) /\ ap f k:=by
 have Xa:=Ze.N16;have YQ:=ab YB;have Z7:=ab Zd;have z:=ab Ze;have XV:=ab Yp;have XX:=ab Zu;have ZL:=Zd.v0;clear YB Zd Ze Yp Zu;go_enter func375,ntmps375;go_wp2;refine jT (ι:=J×J) (λ ZN m=>((((((((((((((ZN.put (Z 16) (br a.V)).put (Z 17) (br a.V)).put (Z 18) (br a.V)).put (Z 19) (aq a.G a.N a.gc)).put (Z 20) (M a.N)).put (Z 21) (aq m.1 a.N a.N)).put (Z 22) (br a.V)).put (Z 23) (br a.V)).put (Z 24) (br a.V)).put (Z 25) (aq a.G a.N a.gc)).put (Z 26) (M a.N)).put (Z 27) (aq m.2 a.N a.N)).put (Z 9) (aq m.1 a.N a.N)).put (Z 10) (aq m.2 a.N a.N)))
  (λ m Z6=>av Z6 f.heap.size (aq m.1 a.N a.N) (bE a.N 0) /\ av Z6 f.heap.size (aq m.2 a.N a.N) (bE a.N 0) /\ m.1≠m.2 /\ ap f Z6) ?_ ?_
 ·go_region_with (first | (refine j1 (w:=f.drew) (X:= λ Za=>jC prog _ _ _ _ (Za.andThen _)) a.N E ?_;intro Y8 Ys Zf Zt;have Xf:=ag (e8 Zf) ZL;go_simp) | (refine j1 (w:=Y8) (X:= λ Za=>jC prog _ _ _ _ (Za.andThen _)) a.N E ?_;intro W1 Yr Zv W4;go_simp));all_goals first | (refine⟨(f.heap.size,Y8.heap.size),?_,Ys.below Zv,Yr.mono (h3 Zt),Nat.ne_of_lt Zt,au (e8 Zf) Zv⟩;simp[aT];done) | (refine⟨(Y8.heap.size,f.heap.size),?_,Yr.mono (h3 Zt),Ys.below Zv,Nat.ne_of_gt Zt,au (e8 Zf) Zv⟩;simp[aT];done)
 ·rintro⟨s,l⟩ W2 ⟨A,B,YE,R⟩;simp only at A B YE;have XR:=A.block s I;have XQ:=B.block l I;have Xe:¬l=s:= λ c=>YE c.symm
  go_wp2;go_loopw [11,30] (λ _ m wr=>ap f wr /\ ∃(b:J) (ZS Y:ac),b<=a.N /\ m=M b /\ av wr f.heap.size (aq s a.N a.N) ZS /\ av wr f.heap.size (aq l a.N a.N) Y /\ U ((∀e,e<b->O ZS e= -1) /\ ∀e,e<b->O Y e= -1)) (λ _ m _=>a.N-(intOf m).toNat)
  case atStart=>exact⟨R,0,_,_,E,I,A,B,⟨λ e T=>E,λ e T=>E⟩⟩
  case round =>
   obtain⟨ZK,b,ZS,Y,XM,rfl,Z2,Z1,ZX⟩:=hrel;have W3:=ZK.size;have XO:=Z2.block s I;have XN:=Z1.block l I;by_cases j:b<a.N
   ·obtain⟨Zm,YI,YH⟩:=Z2.cellAt j;obtain⟨WO,YG,XT⟩:=Z1.cellAt j;obtain⟨N,ZU⟩:=Z2.store j (-1);have X:=Z1.setOther (a:=(ad s b)) (by intro c;simp[lL] at c;omega) (M (-1));obtain⟨Yo,Ym⟩:=X.store j (-1);have Yn:=N.setOther (a:=(ad l b)) (by intro c;simp[lL] at c;omega) (M (-1));have ZB:=ab (cV (cV ZK E ZU (λ ZM c=>by injection c with c;omega)) (by simp[jc];omega) Ym (λ ZM c=>by injection c with c;omega));have XY:=ab Yo;have XZ:=ab Yn;have XU:U ((∀e,e<b+1->O (ZS.set b (-1)) e= -1) /\ ∀e,e<b+1->O (Y.set b (-1)) e= -1):=by
     refine⟨λ e T=>?_,λ e T=>?_⟩
     ·rw[cO];split
      ·rfl
      ·next Zc=>exact ZX.o.1 e (by rcases hX e b with g | g;exact g;exact bC ⟨E,E⟩ Zc)
     ·rw[cO];split
      ·rfl
      ·next Zc=>exact ZX.o.2 e (by rcases hX e b with g | g;exact g;exact bC ⟨E,E⟩ Zc)
    have XL:(0:F)<=(b:F):=E;have Yw:(b:F)<(a.N:F):=E;clear N X Yo Yn ZU Ym ZK ZX Z2 Z1;go_wp2;go_roundw
    case rel=>exact⟨ZB.o,b+1,_,_,E,by go_num,XZ.o,XY.o,XU⟩
    case measure=>simp[intOf];omega
   ·obtain⟨Yv,Yu⟩:ZS.length=a.N /\ Y.length=a.N:=by
     obtain⟨_,_,_,Zl,XH⟩:=Z2.ints;obtain⟨_,_,_,Zk,XG⟩:=Z1.ints;injection Zl with _ Zl _;injection Zk with _ Zk _
     exact⟨by rw[XH.len,Zl],by rw[XG.len,Zk]⟩
    have Z8:=ab (dO.start q p Yv Yu (λ e T=>ZX.o.1 e E) (λ e T=>ZX.o.2 e E) Yy)
    have XK:io Y<=a.N:=by unfold io;have:=List.length_filter_le (λ ZT=>decide (ZT<0)) Y;omega
    have ZB:=ab ZK
    have YM:=ab Z2
    have YL:=ab Z1
    clear ZX ZK Z2 Z1 Yv Yu
    obtain⟨ZG,rfl⟩:∃ZZ:af,ZZ=wr:=⟨_,I⟩
    obtain⟨o,ZW⟩:∃L,L=ZG.heap.size:=⟨_,I⟩
    have Xd:s<o:=by rw[ZW];exact XO.2
    have Xc:l<o:=by rw[ZW];exact XN.2
    have W7:¬(b:F)<(a.N:F):=E
    go_wp2
    rw[<- ZW]
    obtain⟨Y9,ZH⟩:∃ZZ:af,ZZ=ZG.alloc (al #[M r] 3):=⟨_,I⟩
    have Zw:ap ZG Y9:=by rw[ZH];exact az ZG _
    have YA:e4 Y9 o (aq o 1 1) [(r:F)]:=by
     rw[ZH,ZW];exact⟨ZG.heap.size,0,1,I,ar,by unfold maxLen;omega,bL _,ar,λ e T=>by simp at T;subst T;simp[O],λ e Zj Zy=>by simp at Zj;omega⟩
    have W5:Y9.heap.size=o+1:=by rw[ZH,ZW];simp
    have YC:=au ZB.o Zw
    have V:=YM.o.below Zw
    have K:=YL.o.below Zw
    rw[<- ZH]
    clear ZH Zw YM YL ZB ZW
    go_loopw [12,13,14,15,55,85] (λ L _ _ _ _ _ wr=>ap f wr /\ o<wr.heap.size /\ ∃(t i n:ac) (C:J->J),av wr f.heap.size (aq s a.N a.N) t /\ av wr f.heap.size (aq l a.N a.N) i /\ e4 wr o L n /\ n.length+io i<=17 /\ U (dO a.N r q p t i n C fG fG)) (λ L _ _ _ _ _ wr=>pr L+ph wr l a.N)
    case atStart=>exact⟨YC,E,ZS,Y,_,_,V,K,YA,by simp;omega,Z8.o⟩
    case round =>
     clear V K YA YC Z8 XK;obtain⟨Zi,XI,XS,Zz,XF,XE,Yt,Zb,Zx,Yq,Z8⟩:=hrel;cases XF with
     | nil =>
      have XJ:=Z8.o.stuck YQ.o Yy XX.o
      obtain⟨Z5,Z0,H,rfl,_⟩:=Zx
      simp only[List.length_nil]
      go_wp2
      refine aK (v:=aL #[aa aj 0 0,aa aj 0 0,M (-1)]) (by simp[aJ,results375,go_sem]) I ⟨Or.inr ⟨_,_,I,XJ⟩,Zi⟩
     | cons ZT rest =>
      have XW:U (pr u12+ph wr l a.N=rest.length+1+io Zz):=by
       show _=_;rw[Zx.lenV,Bq Z8.o.lt (qr Zb)];rfl
      obtain⟨WO,ZJ,rfl,Yz,YD⟩:=Z8.o.pop
      have YR:=ab YD
      clear Z8 YD
      obtain⟨XD,rfl⟩:∃ZZ:af,ZZ=wr:=⟨_,I⟩
      obtain⟨ZO,Z4⟩:∃ZO,ZO=rest.length+io Zz:=⟨_,I⟩
      have Xb:ZO<=16:=by simp at Yq;omega
      have YK:=ab Yz
      have YP:=ab Z4
      clear Yq Yz
      obtain⟨Z5,Z0,H,rfl,Yx⟩:∃Z5 Z0 H,u12=aa (Z ⟨Z5,Z0,aj⟩) (rest.length+1) H /\ e4 XD o (aa (Z ⟨Z5,Z0,aj⟩) (rest.length+1) H) ((WO:F)::rest):=by
       obtain⟨Z5,Z0,H,rfl,g⟩:=Zx;exact⟨Z5,Z0,H,I,Z5,Z0,H,I,g⟩
      obtain⟨-,W6,W8,Zg,S⟩:=Yx.tail
      simp only[Nat.add_sub_cancel] at Zg
      have Xg:(rest.length:F)+1<=(H:F):=E
      have YO:=ab Zg
      have YN:=ab S
      clear Zx Yx Zg S Z4
      by_cases XP:H=1
      ·subst XP;have Zh:=YN.o I;exact vF
      ·have Zh:=YO.o;exact vF
end Go.Proofs.YtkjnhlpccgjfhaaGreatDoor
