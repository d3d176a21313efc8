/- A part of the proof: lemmas (my texts, shortened by a program of mine). -/
import Derived.Deep.RegionHeld3
import Derived.Deep.AppendLies
import Derived.Test.YtkjnhlpccgjfhaaGreatDoorC11
import Derived.Test.YtkjnhlpccgjfhaaGreatDoorC15
set_option linter.all false
set_option maxRecDepth 100000
set_option maxHeartbeats 4000000
namespace Go.Proofs.YtkjnhlpccgjfhaaGreatDoor
open Go.RowKit
open Go.Proofs.Tryz
open And renaming intro->gC
open Bool renaming false->ak,true->ae
open Go renaming Calls->aY,Value->ay,World->af,bodyPost_ret->aK,callFunc->b0,results->aJ
open Go.Act renaming put->aT
open Go.Ending renaming returned->aV
open Go.IntWalk renaming i64_in->bV
open Go.Obj renaming cells->al
open Go.Result renaming andThen_ok->ex
open Go.Sem renaming run->c9,run_bind->eC,run_pure->ey
open Go.Value renaming bool->aw,ownBlock->lL,slice->aa,tuple->aL
open Go.World renaming block_lt_of_cell?->fX,cell?_setCell_other->c3,cell?_setCell_same->fZ,drew->dH,frozen?_setCell->pn,setCell->jc
open Go.World.ownsRow renaming cells->iN,lt->fs
open Int renaming le_refl->fE
open List renaming getElem?_eq_getElem->fV,getElem?_map->jE,length_append->dm,map_append->g7,range->cN,replicate->bE
open Nat renaming le_of_lt->h3,le_refl->bL,lt_of_lt_of_le->cm
open Option renaming isNone_iff_eq_none->eB,none->aj,some->Z
open Or renaming inl->bj,inr->aP
open _root_ renaming Array->bg,Bool->a8,Int->F,List->aU,Nat->J,absurd->bC,beq_iff_eq->cR,congrArg->be,if_neg->aF,if_pos->a7,rfl->I
variable {p q:Prop}
theorem ID (b:gf) (m k:J) (a u:J) (c:af) (t:J->J->F) (l d:J->F) (e:O7 b c t l d) (j:b.good m k) (i:a<b.N) (p: c.cell? (ad u 0)=Z (br b.V)):
  aY prog 376 #[M a,br u] c λ g f=>g=aV (aw (decide (0<d a))) /\ c=f:=by
 have n:=e.v3;have o:=(e.d a i).1;have q:(0:F)<=(a:F):=E;have r:(a:F)<(b.N:F):=E;clear e j;generalize d a=s at *;go_enter func376,ntmps376;go_wp2;go_ret;exact⟨I,I⟩
theorem Ha (c:bg ay) (a:af):c9 prog (b0 376 c) a=.ok (.enter 376 c) a:=by
 have g:(Tryz.f376.name== "runtime.NumGoroutine")=ak:=ah;have b:Tryz.f376.body.isNone=ak:=ah;have d:¬Tryz.f376.name= "runtime.NumGoroutine" :=by simpa using g
 have e:¬Tryz.f376.body=aj:=by intro f;rw[f] at b;simp at b
 simp only[b0,eC,run_program,ex,func376,cR,eB,aF d,aF e,ey]
theorem Mv (a:gf) (x o b:J) (u s:J->F) (g:af) (r:J->J->F) (f k:J->F) (ZY:O7 a g r f k) (Z0:a.good x o) (G:o<=g.heap.size) (Z7:dV bY a.N u s r f k) (Z3:∀b,b<a.N->u b<=1000000000000) (Z9:∀b,b<a.N->s b<=1000000000000) (l:b<a.N) (ZZ:0<f b):
  aY prog 351 #[br a.V,M b] g
   λ q j=>(∃YU,q=aV (aw YU) /\ (YU=ae->∃A B W,O7 a j A B W /\ dV bY a.N u s A B W /\ B b<f b /\ ∀c,c≠b->B c=f c) /\ (YU=ak->¬jb bY a.N u s)) /\ aA x o g j:=by
 have t:=ab Z7;have N:=ab ZY;have e:=ab Z0;have Y:=ab Z3;have ZP:=ab Z9;clear ZY Z7 Z0 Z3 Z9;go_enter func351,ntmps351;go_wp2_with fail;refine(MQ a x o b 376 _ u s _ r f k (N.o.below (B:=g.heap.size) e.o ?_ G) e.o ?_ t.o Ha ?_ l ZZ).mono ?_
 ·exact aD
 ·simp;omega
 ·intro ZF j X Zv;exact ID a x o ZF g.heap.size j r f k (N.o.below (B:=g.heap.size) e.o (Below.trans aD (X.mono ar)) G) e.o Zv (ag X ar)
 rintro q L ⟨R,P⟩;have Zy:=aS P g.heap.size 0 (br a.V);have D:ap g L:=Below.trans aD (P.mono ar);have Y6:=D.size;rcases R with R | ⟨YW,YV,rfl,Zp⟩
 ·obtain⟨ZS,ZE,ZR,ZD,d,Zz,ZA,Zl,rfl,m,Zu,Zt,Ze,Zd,Z5,Z4,Z1,w,Zs⟩:=R;simp at Zu Zt;clear P;have v:=N.o.below e.o D G;have ZK:=ab v;have Zj:=v.v2;have Zi:=v.v3;have ZC:=(v.l b l).1;have ZB:=(v.d d m).1;have ZM:=ab Z5;have ZL:=ab Z4;have ZG:=ab Z1;have ZO:=ab w;clear v Z5 Z4 Z1 w;have Zw:f b<=1000000000000:=by have:=t.o.row b l;have:=Y.o b l;have:=mr (f:=r b) (n:=a.N) (λ c n=>t.o.nn b c l n);omega
  have Zx:k d<=1000000000000:=by have:=t.o.col d m;have:=ZP.o d m;have:=mr (f:= λ b=>r b d) (n:=a.N) (λ c n=>t.o.nn c d n m);omega
  obtain⟨i,Q⟩:∃V,f b=V:=⟨_,I⟩;obtain⟨YT,w⟩:∃V,k d=V:=⟨_,I⟩;have C:=ab Q;have y:=ab w;rw[Q] at ZC ZZ Zw;rw[w] at ZB Zs Zx;have Zc:(0:F)<=(b:F):=E;have Zb:(b:F)<(a.N:F):=E;have Za:(0:F)<=(d:F):=E;have Y9:(d:F)<(a.N:F):=E;clear Q w;have z:0<(if YT<i then YT else i) /\ (if YT<i then YT else i)<=i /\ (if YT<i then YT else i)<=YT:=by split<;>omega
  obtain⟨T,Zq⟩:∃T,(if YT<i then YT else i)=T:=⟨_,I⟩;rw[Zq] at z;have ZJ:=ab (Mu a x o b d ZS ZE ZR ZD T Zz ZA Zl u s L.drew r f k (ZK.o.drew e.o) e.o (show o<=L.heap.size from E) t.o Y.o (λ c n=>ZM.o c n) (λ c n=>ZL.o c n) E E ZG.o m ZO.o z.1 (by rw[C.o];exact z.2.1) (by rw[y.o];exact z.2.2) l);have ZQ:U (L.drew.cell? (ad g.heap.size 0)=Z (br a.V)):=Zy;have Zr:=G;clear z;go_wp2;go_region_held3 (λ j=>j.cell? (ad g.heap.size 0)=Z (br a.V) /\ j.cell? (ad a.V 2)=Z (aq a.L a.N a.lc) /\ j.cell? (ad a.V 3)=Z (aq a.D a.N a.dc) /\ j.cell? ⟨a.L,b,aj⟩=Z (M i) /\ j.cell? ⟨a.D,d,aj⟩=Z (M YT)) (first | (refine⟨by assumption,by assumption,by assumption,by assumption,by assumption⟩;done) | go_keep) (first | (go_at_call 377;(with_reducible refine ZJ.o.mono ?_);rintro q Zk ⟨⟨K,A,rfl,Y8,Y7,p,Z6⟩,S⟩;have Zo:=aA.keep S ZQ.o (Or.inr Zr);have Y5:=p.v2;have Y4:=p.v3;have Zn:=(p.l b l).1;rw[C.o] at Zn;have Zm:=(p.d d m).1;rw[y.o] at Zm));have ZW:=p.l b l;have ZV:=p.d d m;rw[C.o] at ZW;rw[y.o] at ZV;obtain⟨Y3,Y2⟩:=ZW;obtain⟨Y1,Y0⟩:=ZV;have ZX:aA x o g Zk:=aA.trans (aA.of_below D) (aA.trans (aA.of_below (bI L)) S);have H:=p.setL e.o l (i-K);have YZ:=H.v3;have ZU:=H.d d m;have ZT:=H.setD e.o m (YT-K);have ZI:=ab ZT;have ZN:=ab Z6;have ZH:=ab ZX;have Z2:=e.o.L;have Z8:=e.o.D;have Zg:=e.o.LV.2.2.2;have Zf:=e.o.LV.1;have Zh:¬a.L=g.heap.size:=E;clear p Z6 ZX S H ZT Zo;rw[y.o] at ZU;obtain⟨YY,YX⟩:=ZU;go_wp2;go_ret;refine⟨⟨ae,I,λ _=>⟨A,_,_,ZI.o.congr (lf':= λ c=>if c=b then f c-K else f c) (du':= λ c=>if c=d then k c-K else k c) (λ _ _ _ _=>rfl) (λ c _=>?_) (λ c _=>?_),ZN.o,?_,λ c n=>aF n⟩,(λ O=>by cases O)⟩,?_⟩
  ·split
   ·next q=>rw[q,C.o]
   ·rfl
  ·split
   ·next q=>rw[q,y.o]
   ·rfl
  ·simp;omega
  ·exact aA.trans ZH.o (aA.trans (aA.set ⟨Z2.1,Z2.2⟩) (aA.set ⟨Z8.1,Z8.2⟩))
 ·go_wp2;go_ret;exact⟨⟨ak,I,(λ O=>by cases O),λ _=>Zp⟩,aA.of_below D⟩
theorem J8:(prog.info? 4).map (λ a=>(a.zero,a.size,a.bytes))=Z (Z (aw ak),1,1):=ah
theorem JH:(prog.info? 209).map (λ a=>(a.zero,a.size,a.bytes))=Z (Z (aa aj 0 0),1,24):=ah
def vj (a:J):TypeId:=if a=0 then 27 else if a=1 then 209 else 3
def zG (a:J):ay:=if a=0 then M 0 else aw ak
def iR (c:af) (e b d:J):Prop:=∀a,a<d-> c.cell? ⟨b,a,aj⟩=Z (zG e) /\ c.frozen? ⟨b,a,aj⟩=ak
theorem iR.same {i b:af} {h a c:J} (e:iR i h a c) (g:b.heap[a]? =i.heap[a]?):iR b h a c:= λ d f=>⟨(eR g).trans (e d f).1,(gK g).trans (e d f).2⟩
theorem J9 {e:af} {f b a:J} (g:av e f (aq b a a) (bE a 0)):iR e 0 b a:= λ i d=>by
 obtain⟨c,h,_⟩:=g.cellAt d;rw[cK _ _ (by simpa using d)] at c;exact⟨by simpa [zG] using c,h⟩
theorem FA (b:af) (a:J) (A:a<=1000000000):∃c,c9 prog (Instr.makeSlice 209 (M (a:F)) (M (a:F))) b=.ok (aq b.heap.size a a) c /\ iR c 1 b.heap.size a /\ ap b c /\ b.heap.size<c.heap.size:=by
 obtain⟨u,n,r,s,t⟩:=info_parts J8;obtain⟨c,p,h,f⟩:=run_make_full (P:=prog) b b.heap.size 209 4 u (aw ak) 1 underlying209 n r s .i64 .i64 a (by rw[t];omega) (by unfold maxLen;omega) aZ;refine⟨c,p,λ k m=>?_,⟨f.os,f.tape,f.output,f.size,λ v o=>f.block v o ar⟩,(fs h _ I).2⟩;have l:(madeCells (Value.bool ak).cells (a*1)).toList=bE a (Value.bool ak):=by
  exact sh
 rw[l] at h;have i:=iN h (g:=b.heap.size) I k (aw ak) (by simp[m]);rw[Addr.add_lit,Nat.zero_add] at i;refine⟨by rw[i];rfl,?_⟩;rcases h.2 with ⟨g,_⟩ | ⟨y,w,x,q,z,j,_⟩
 ·simp at g
 ·injection q with e;injection e with e;injection e with e
  rw[<- e] at j;simp[World.frozen?,j]
structure g9 (w:af) (base V N:J) (v:J->ay) (xs:J->aU ay) (tag:J->J):Prop where
 VV:base<=V /\ V<w.heap.size
 c:∀i,i<4-> w.cell? (ad V i)=Z (v i) /\ w.frozen? (ad V i)=ak
 own:∀i,i<4->w.ownsRow base (vj i) 1 (v i) (xs i).length (xs i)
 t0:tag V=0
 t:∀i,i<4->∀g,(v i).ownBlock=Z g->tag g=i+1
 rows:∀i,i<2->∀b u,(xs i)[b]? =Z u->∃g,u=aq g N N /\ base<=g /\ g<w.heap.size /\ tag g=5+2*b+i /\ iR w i g N
theorem ru {k e:af} {f i h:J} {g:TypeId} {c:ay} {j:aU ay} (a:k.ownsRow f g i c h j) (d:∀b,c.ownBlock=Z b->e.heap[b]? =k.heap[b]?):e.ownsRow f g i c h j:=by
 exact sd
theorem g9.below {n w':af} {g e f:J} {m:J->ay} {o:J->aU ay} {l:J->J} (a:g9 n g e f m o l) (d:ap n w'):g9 w' g e f m o l:=by
 refine⟨⟨a.VV.1,cm a.VV.2 d.size⟩,λ c b=>?_,λ c b=>ru (a.own c b) λ k u=>d.block k (fs (a.own c b) k u).2,a.t0,a.t,λ c b p w v=>?_⟩
 ·have j:=d.block e a.VV.2;exact⟨(eR j).trans (a.c c b).1,(gK j).trans (a.c c b).2⟩
 ·obtain⟨h,q,r,i,s,t⟩:=a.rows c b p w v;exact⟨h,q,r,cm i d.size,s,t.same (d.block h i)⟩
def rH {α:Type} (c:J->α) (b:J) (d:α):J->α:= λ a=>if a=b then d else c a
theorem li {α:Type} (c:J->α) (a:J) (b:α):rH c a b a=b:=a7 I
theorem lj {α:Type} {c:J->α} {b a:J} {e:α} (d:a≠b):rH c b e a=c a:=aF d
theorem g9.put {k q w2:af} {x j m:J} {B:J->ay} {h:J->aU ay} {w:J->J} (d:g9 k x j m B h w) (K:ap k q) {i g cap:J} (z:i<4) {u:ay}
  (Z7:w2.ownsRow x (vj i) 1 (aq g ((h i).length +1) cap) ((h i).length +1) (h i++[u])) (G:q.grownBy w2 (B i).ownBlock) (M:(B i).ownBlock=Z g \/ g=q.heap.size)
  (Z6:i<2->∃e,u=aq e m m /\ k.heap.size<=e /\ e<q.heap.size /\ iR q i e m):
  ∃S,g9 (w2.setCell (ad j i) (aq g ((h i).length +1) cap)) x j m (rH B i (aq g ((h i).length +1) cap)) (rH h i (h i++[u])) S:=by
 obtain⟨e,X⟩:∃e,i<2->u=aq e m m /\ k.heap.size<=e /\ e<q.heap.size /\ iR q i e m:=by
  by_cases L:i<2
  ·obtain⟨e,b⟩:=Z6 L;exact⟨e,λ _=>b⟩
  ·exact⟨0,λ T=>bC T L⟩
 have Z5:=K.size;have Z4:=G.size;have D:=d.VV.2;have N:g<k.heap.size->w g=i+1:= λ A=>by
  rcases M with c | c
  ·exact d.t i z g c
  ·omega
 have Y:g≠j:=by
  intro c;subst c;have:=N D;rw[d.t0] at this;omega
 have P:∀b,b<k.heap.size->w b≠i+1->w2.heap[b]? =k.heap[b]? := λ b f Z3=>by
  rw[G.block b E (by intro c;exact Z3 (d.t i z b c.symm)),K.block b f]
 have Q:∀b,b<k.heap.size->w b≠i+1->b≠j->(w2.setCell (ad j i) (aq g ((h i).length +1) cap)).heap[b]? =k.heap[b]? := λ b f Z3 U=>(Below.heap_setCell _ _ _ _ U).trans (P b f Z3)
 have F:∀a,w2.cell? (ad j a)= k.cell? (ad j a) /\ w2.frozen? (ad j a)= k.frozen? (ad j a):= λ a=>by
  have O:=P j D (by rw[d.t0];omega);exact⟨eR O,gK O⟩
 refine⟨λ b=>if b<k.heap.size then w b else if b=g then i+1 else if b=e then 5+2*(h i).length +i else 0,⟨d.VV.1,by simp[jc];omega⟩,λ a l=>?_,λ a l=>?_,?_,λ a l b f=>?_,λ a l p r n=>?_⟩
 ·rw[pn,(F a).2];refine⟨?_,(d.c a l).2⟩;by_cases c:a=i
  ·subst c;rw[li];exact fZ _ _ _ (by rw[(F a).1];exact(d.c a l).1)
  ·rw[lj c,c3 _ _ _ _ (by intro s;injection s with _ t;exact c t.symm),(F a).1];exact(d.c a l).1
 ·by_cases c:a=i
  ·subst c;rw[li,li,dm];exact ru Z7 λ b f=>by
    injection f with f;subst f
    exact Below.heap_setCell _ _ _ _ Y
  ·rw[lj c,lj c];refine ru (d.own a l) λ b f=>?_
   have H:=(fs (d.own a l) b f).2;have Z9:=d.t a l b f;exact Q b H E (by intro y;subst y;rw[d.t0] at Z9;omega)
 ·simp only[a7 D];exact d.t0
 ·by_cases c:a=i
  ·subst c;rw[li] at f;injection f with f;subst f
   by_cases A:g<k.heap.size
   ·simp only[a7 A];exact N A
   ·simp only[aF A];simp
  ·rw[lj c] at f;have H:=(fs (d.own a l) b f).2;simp only[a7 H];exact d.t a l b f
 ·have R:∀p r,(h a)[p]? =Z r->∃o,r=aq o m m /\ x<=o /\ o<(w2.setCell (ad j i) (aq g ((h i).length +1) cap)).heap.size /\ (if o<k.heap.size then w o else if o=g then i+1 else if o=e then 5+2*(h i).length +i else 0)=5+2*p+a /\ iR (w2.setCell (ad j i) (aq g ((h i).length +1) cap)) a o m:= λ p r n=>by
   obtain⟨o,C,y,s,t,v⟩:=d.rows a l p r n;exact⟨o,C,y,by simp[jc];omega,by rw[a7 s];exact t,v.same (Q o s E (by intro c;subst c;rw[d.t0] at t;omega))⟩
  by_cases c:a=i
  ·subst c;rw[li] at n;by_cases V:p<(h a).length
   ·rw[List.getElem?_append_left V] at n;exact R p r n
   ·rw[List.getElem?_append_right E] at n;have W:p=(h a).length:=by
     have:=(List.getElem?_eq_some_iff.1 n).1;simp at this;omega
    subst W;simp at n;subst n;obtain⟨C,y,s,t⟩:=X l;have Z8:e≠g:=by
     rcases M with v | v
     ·have:=(fs (d.own a z) g v).2;omega
     ·omega
    refine⟨e,C,by have:=d.VV;omega,by simp[jc];omega,by rw[aF E,aF Z8,a7 rfl],t.same ((Below.heap_setCell _ _ _ _ (by show e≠j;omega)).trans (G.block e s (by
     intro v;have:=(fs (d.own a z) e v.symm).2;omega)))⟩
  ·rw[lj c] at n;exact R p r n
def fH:Option ay->J
 | some (aa (Z a) _ _)=>a.block
 | _=>0
theorem g9.done {m:af} {q u f:J} {L:J->ay} {e:J->aU ay} {l:J->J} (k:g9 m q u f L e l) (ZH:0<f) (Z0:f<=16) (K:∀i,i<4->(e i).length=f) {Lf Df:J->F}
  (Z6:e 2=(cN f).map λ a=>M (Lf a)) (Z7:e 3=(cN f).map λ a=>M (Df a)):
  ∃s:gf,s.V=u /\ s.N=f /\ s.good q m.heap.size /\ O7 s m (λ _ _=>0) Lf Df:=by
 have t:∀i,i<4->∃g x,L i=aq g f x /\ q<=g /\ g<m.heap.size /\ l g=i+1 /\ (∀a d,(e i)[a]? =Z d-> m.cell? ⟨g,a,aj⟩=Z d) /\ ∀a,a<f-> m.frozen? ⟨g,a,aj⟩=ak:= λ i o=>by
  have p:=k.own i o;rw[K i o] at p;rcases p.2 with ⟨_,ZI⟩ | ⟨g,x,ZM,z,ZF,ZZ,ZE,r,ZD,ZC⟩
  ·omega
  ·rw[z] at p;have b:=fs p g I;refine⟨g,x,z,b.1,b.2,k.t i o g (by rw[z];rfl),λ a d j=>?_,λ a H=>by simp[World.frozen?,ZZ]⟩;have:=iN p (g:=g) I a d j;rwa [Addr.add_lit,Nat.zero_add] at this
 obtain⟨O,Z1,Z5,Z4,Z3,ZK,Z2,ZJ⟩:=t 0 E;obtain⟨Q,ZN,ZR,ZQ,ZP,Zz,ZO,Zy⟩:=t 1 E;obtain⟨P,ZT,ZY,ZX,ZW,ZB,ZV,ZU⟩:=t 2 E;obtain⟨N,W,R,S,T,ZL,U,V⟩:=t 3 E;have h:∀i,i<2->∀a,a<f->∃d,(e i)[a]? =Z d /\ d=aq (fH ((e i)[a]?)) f f /\ q<=fH ((e i)[a]?) /\ fH ((e i)[a]?)<m.heap.size /\ l (fH ((e i)[a]?))=5+2*a+i /\ iR m i (fH ((e i)[a]?)) f:= λ i o a b=>by
  obtain⟨d,j⟩:∃d,(e i)[a]? =Z d:=⟨(e i)[a]'(by rw[K i E];exact b),fV _⟩;obtain⟨g,G,X,Y,Z9,Z8⟩:=k.rows i o a d j;have H:fH ((e i)[a]?)=g:=by rw[j,G];rfl
  rw[H];exact⟨d,j,G,X,Y,Z9,Z8⟩
 have ZA:=k.t0;refine⟨⟨u,f,O,Z1,Q,ZN,P,ZT,N,W,λ a=>fH ((e 0)[a]?),λ a=>fH ((e 1)[a]?)⟩,I,I,⟨Z0,k.VV,⟨Z4,Z3⟩,⟨ZQ,ZP⟩,⟨ZX,ZW⟩,⟨S,T⟩,λ a b=>?_,λ a b=>?_,?_,?_,λ a b=>?_,λ a b=>?_,λ a w b r=>?_,λ a w b r ZG=>?_⟩,?_⟩
 ·obtain⟨_,_,_,B,C,_⟩:=h 0 E a b;exact⟨B,C⟩
 ·obtain⟨_,_,_,B,C,_⟩:=h 1 E a b;exact⟨B,C⟩
 ·refine⟨?_,?_,?_,?_⟩<;>(intro c;dsimp only at c;have n:=be l c;omega)
 ·refine⟨?_,?_,?_⟩<;>(intro c;dsimp only at c;have n:=be l c;omega)
 ·obtain⟨_,_,_,_,_,D,_⟩:=h 0 E a b;refine⟨?_,?_,?_,?_,?_⟩<;>(intro c;dsimp only at c;have n:=be l c;omega)
 ·obtain⟨_,_,_,_,_,D,_⟩:=h 1 E a b;refine⟨?_,?_⟩<;>(intro c;dsimp only at c;have n:=be l c;omega)
 ·obtain⟨_,_,_,_,_,D,_⟩:=h 0 E a b;obtain⟨_,_,_,_,_,ZS,_⟩:=h 1 E w r;intro c;dsimp only at c;have n:=be l c;omega
 ·obtain⟨_,_,_,_,_,D,_⟩:=h 0 E a b;obtain⟨_,_,_,_,_,ZS,_⟩:=h 0 E w r;intro c;dsimp only at c;have n:=be l c;omega
 ·refine⟨by rw[(k.c 0 E).1,Z5],by rw[(k.c 1 E).1,ZR],by rw[(k.c 2 E).1,ZY],by rw[(k.c 3 E).1,R],λ a b=>?_,λ a b=>?_,λ a v b y=>?_,λ a v b y=>?_,λ a b=>⟨?_,ZU a b⟩,λ a b=>⟨?_,V a b⟩⟩
  ·obtain⟨d,j,c,_⟩:=h 0 E a b;rw[Z2 a d j,c]
  ·obtain⟨d,j,c,_⟩:=h 1 E a b;rw[ZO a d j,c]
  ·obtain⟨d,j,c,_,_,_,A⟩:=h 1 E a b;exact(A v y).1
  ·obtain⟨d,j,c,_,_,_,A⟩:=h 0 E a b;exact A v y
  ·exact ZV a _ (by rw[Z6,jE,List.getElem?_range b];rfl)
  ·exact U a _ (by rw[Z7,jE,List.getElem?_range b];rfl)
def n7 (e f:ac) (b:J) (d:J) (c:aU ay):Prop:=c.length=b /\ (d=2->c=(cN b).map λ a=>M (O f a*aW e)) /\ (d=3->c=(cN b).map λ a=>M (O e a*aW f))
theorem i4 {a b:F} (c:0<=a) (d:a<=1000000) (g:1<=b) (e:b<=1000000):0<=a*b /\ a*b<=1000000000000 /\ IntKind.i64.wrap (a*b)=a*b:=by
 have f:0<=a*b:=Int.mul_nonneg c E;have h:a*b<=1000000*1000000:=Int.mul_le_mul d e E E;exact⟨f,E,bV _ E⟩
theorem nC {j b:af} {c g f:J} {a:TypeId} {h:ay} {i:aU ay} (d:j.ownsRow c a g h f i) (k:ap j b):b.ownsRow c a g h f i:=ru d λ e a=>k.block e (fs d e a).2
theorem nS {c g:af} {f:Option J} {a b:J} {h:ay} (j:c.grownBy g f) (e: c.cell? ⟨a,b,aj⟩=Z h) (k:∀d,f=Z d->a≠d): g.cell? ⟨a,b,aj⟩=Z h :=
 (eR (j.block a (fX c ⟨a,b,aj⟩ e) λ i=>k a i.symm I)).trans e
theorem nQ {c f:af} {e:Option J} {a b:J} {l:ay} (j:c.grownBy f e) (h: c.cell? ⟨a,b,aj⟩=Z l) (i: c.frozen? ⟨a,b,aj⟩=ak) (k:∀d,e=Z d->a≠d): f.frozen? ⟨a,b,aj⟩=ak :=
 (gK (j.block a (fX c ⟨a,b,aj⟩ h) λ g=>k a g.symm I)).trans i
theorem nR (d:af) (e:ay) (f:TypeId):∀b c,[e][b]? =Z c->(d.alloc (al #[e] f)).cell? (((ad d.heap.size 0):Addr).add b)=Z c:=by
 intro b c a
 match b,a with
 | 0,a=>simp at a;subst a;simp[Addr.add]
theorem g9.apart {m:af} {f b e:J} {d:J->ay} {n:J->aU ay} {l:J->J} (c:g9 m f b e d n l) {i:J} (k:i<4):∀a,(d i).ownBlock=Z a->b≠a:= λ a j g=>by
 have h:=c.t i k a j;rw[<- g,c.t0] at h;omega
theorem Mw (c:af) (a:ay) (d:TypeId) (b:J) (e:b<4):(c.alloc (al #[a,a,a,a] d)).cell? (ad c.heap.size b)=Z a /\ (c.alloc (al #[a,a,a,a] d)).frozen? (ad c.heap.size b)=ak:=by
 match b,e with
 | 0,_=>exact⟨ar,ar⟩
 | 1,_=>exact⟨ar,ar⟩
 | 2,_=>exact⟨ar,ar⟩
 | 3,_=>exact⟨ar,ar⟩
theorem qO {α:Type} (a:J->α) (b:J):(cN (b+1)).map a=(cN b).map a++[a b]:=by rw[List.range_succ,g7];rfl
theorem Hb (z:F) (XN XM:aG) (YP ZU g ZT:J) (q r:ac) (o:af) (Z6:an o XN YP q) (YU:an o XM g r) (Xd:aI z q=ae) (Xc:aI z r=ae):
  aY prog 312 #[am z XN YP ZU,am z XM g ZT] o
   λ C b=>(∃V2 YK,C=aV (aL #[V2,aw YK]) /\ (YK=ae↔kR bY YP q r (aW q) (aW r))) /\ ap o b:=by
 obtain⟨Z7,Xh,Wj,Xo,YW,YV,_⟩:=bt Xd;obtain⟨_,Xg,_,Xn,YT,YS,_⟩:=bt Xc;have Xb:=(b8 Z7).1;have VX:=ab Z6.len;obtain rfl:g=YP:=by rw[<- Z6.len,<- YU.len,Xh,Xg]
 have Yl:0<g:=by have:=Z6.len;omega
 have Yk:g<=16:=by have:=Z6.len;omega
 have Zc:U (∀i,i<g->0<=O q i /\ O q i<=1000000):= λ i Z8=>Xo i (by have:=Z6.len;omega)
 have Zb:U (∀i,i<g->0<=O r i /\ O r i<=1000000):= λ i Z8=>Xn i (by have:=YU.len;omega)
 obtain⟨V4,Xl,W2,W1,W0⟩:=info_parts um;obtain⟨V3,Xk,WZ,WY,WX⟩:=info_parts JH;obtain⟨WR,Xj,WW,WV,WU⟩:=info_parts ig;have Wt:=ab Xl;have Ws:=ab Xk;have X2:=ab Xj;have Yz:=ab (gC W2 (gC W1 W0));have Yy:=ab (gC WZ (gC WY WX));have ZA:=ab (gC WW (gC WV WU));obtain⟨Z1,Ya⟩:∃X5,aW q=X5:=⟨_,I⟩;obtain⟨Z0,X9⟩:∃X5,aW r=X5:=⟨_,I⟩;have Y5:=ab Ya;have Y4:=ab X9;rw[Ya] at YW YV;rw[X9] at YT YS;clear Xo Xn Xh Xg Xd Xc Wj Xb Z7 Xl Xk Xj W2 W1 W0 WZ WY WX WW WV WU Ya X9;obtain⟨R,Z4,rfl,W5,W6⟩:=Z6.cell Yl;obtain⟨S,Z3,rfl,W3,W4⟩:=YU.cell Yl;have WB:U (∀i,i<g-> o.cell? ⟨R,Z4+i,aj⟩=Z (M (O q i))):=W6;have WC:U (∀i,i<g-> o.cell? ⟨S,Z3+i,aj⟩=Z (M (O r i))):=W4;have Wl:U (∀b,an b (Z ⟨R,Z4,aj⟩) g q->aC 157 #[am z (Z ⟨R,Z4,aj⟩) g ZU] b (M Z1)):= λ b Z9=>by rw[<- Y5.o];exact gi _ _ _ _ q b Z9 (λ i Z8=>by have:=Zc.o i Z8;omega) Yk
 have Wk:U (∀b,an b (Z ⟨S,Z3,aj⟩) g r->aC 157 #[am z (Z ⟨S,Z3,aj⟩) g ZT] b (M Z0)):= λ b Z9=>by rw[<- Y4.o];exact gi _ _ _ _ r b Z9 (λ i Z8=>by have:=Zb.o i Z8;omega) Yk
 clear W6 W4;go_enter func312,ntmps312;go_wp2;obtain⟨e,YZ⟩:∃e,o.heap.size+1+1=e:=⟨_,I⟩;rw[YZ];obtain⟨u,Y1⟩:∃u,o.heap.size+1=u:=⟨_,I⟩;rw[Y1];obtain⟨x,ZW⟩:∃G,((o.alloc (al #[M z,aa (Z ⟨R,Z4,aj⟩) g ZU] 29)).alloc (al #[M z,aa (Z ⟨S,Z3,aj⟩) g ZT] 29)).alloc (al #[aa aj 0 0,aa aj 0 0,aa aj 0 0,aa aj 0 0] 208)=G:=⟨_,I⟩;rw[ZW];have Xy:ap o x:=by rw[<- ZW];exact aD
 have WP: x.cell? (ad o.heap.size 0)=Z (M z):=by rw[<- ZW];simp
 have X7: x.cell? (ad o.heap.size 1)=Z (aa (Z ⟨R,Z4,aj⟩) g ZU):=by rw[<- ZW];simp
 have WO: x.cell? (ad u 0)=Z (M z):=by rw[<- ZW,<- Y1];simp
 have X6: x.cell? (ad u 1)=Z (aa (Z ⟨S,Z3,aj⟩) g ZT):=by rw[<- ZW,<- Y1];simp
 have VM:x.heap.size=e+1:=by rw[<- ZW,<- YZ];simp
 have Xx:g9 x e e g (λ _=>aa aj 0 0) (λ _=>[]) (λ _=>0):=by
  refine⟨⟨bL _,E⟩,λ n ZK=>?_,λ n ZK=>World.ownsRow_nil _ _ _ _,I,λ n ZK Q Wc=>by simp[lL] at Wc,λ n ZK l ZR P=>by simp at P⟩;have Zz:=Mw ((o.alloc (al #[M z,aa (Z ⟨R,Z4,aj⟩) g ZU] 29)).alloc (al #[M z,aa (Z ⟨S,Z3,aj⟩) g ZT] 29)) (aa aj 0 0) 208 n ZK;rw[ZW,show ((o.alloc (al #[M z,aa (Z ⟨R,Z4,aj⟩) g ZU] 29)).alloc (al #[M z,aa (Z ⟨S,Z3,aj⟩) g ZT] 29)).heap.size=e by rw[<- YZ];simp] at Zz;exact Zz
 have YD:=ab Xy;have Xz:o.heap.size<e:=E;have VV:u<e:=E;clear ZW Y1 YZ Xy;go_loopw [8,16] (λ _ n wr=>Below e x wr /\ ∃(i:J) (YI:J->ay) (Zv:J->aU ay) (WJ:J->J),i<=g /\ n=M i /\ g9 wr e e g YI Zv WJ /\ U (∀n,n<4->n7 q r i n (Zv n))) (λ _ n _=>g-(intOf n).toNat)
 case atStart=>exact⟨Below.refl _ _,0,_,_,_,E,I,Xx,λ n _=>⟨I,λ _=>rfl,λ _=>rfl⟩⟩
 case round =>
  clear Xx;obtain⟨Y0,i,YI,Zv,WJ,Z8,rfl,YY,ZZ⟩:=hrel;have VL:=Y0.size;by_cases ZS:i<g
  ·have VR:(0:F)<=(i:F):=E;have VQ:(i:F)<(g:F):=E;have Zw:=YY;obtain⟨WN,Xa⟩:∃p,p=YI:=⟨_,I⟩;obtain⟨YR,Ym⟩:∃p,p=Zv:=⟨_,I⟩;rw[<- Xa,<- Ym] at Zw;rw[<- Ym] at ZZ;clear YY Xa Ym YI Zv;have Wi:=Y0;have Y7:=ab (ZZ.o 0 E);obtain⟨Y3,XC⟩:=Zw.c 0 E;have YO:wr.ownsRow e 27 1 (WN 0) (YR 0).length (YR 0):=Zw.own 0 E;rw[Y7.o.1] at YO;have YH:=ab (Zw.apart (i:=0) E);have WG:=ab Zw;obtain⟨WI,Ye⟩:∃p,WN 0=p:=⟨_,I⟩;rw[Ye] at Y3 YO YH;have XS:=ab Ye;have XZ:=ab YO;clear YO Ye Zw;go_wp2;refine jT (ι:=ay×ay×ay) (λ Z2 n=>(aT (aT (aT (aT (aT (aT (aT (aT (aT (aT (aT Z2 (Z 19) (br e)) (Z 20) (br e)) (Z 21) (br e)) (Z 22) (br e)) (Z 23) (WI)) (Z 24) (M g)) (Z 25) (n.1)) (Z 26) (n.2.1)) (Z 27) (n.2.2)) (Z 28) (br e)) (Z 29) (br e))) (λ _ G=>∃(ZC:J->ay) (B:J->aU ay) (ZF:J->J),g9 G e e g ZC B ZF /\ Below e x G /\ U ((B 0).length=i+1 /\ ∀v,v≠0->B v=YR v)) ?_ ?_
   ·obtain⟨m,Wa,Yg,L,Z5⟩:=zW wr.drew g E;have ZH:=ag (e8 L) Y3;have Yt:=aB (e8 L) Y3 XC;have Zi:=J9 Yg;have ZY:wr.heap.size<m.heap.size:=Z5;have ZX:Below wr.heap.size wr (m.alloc (al #[aq wr.heap.size g g] 27)):=Below.trans (e8 L) ((az m _).mono (h3 Z5));have Zh:(m.alloc (al #[aq wr.heap.size g g] 27)).heap.size=m.heap.size+1:=ar;have Zq:=ab ZX;have Zr:=ab Zh;have YA:=ab Zi;clear ZX Zh Zi;go_region_law (refine step_append_lies _ I _ _ 30 I e 27 V4 (aa aj 0 0) 1 24 underlying30 Wt.o Yz.o.1 Yz.o.2.1 Yz.o.2.2 I aX WI i (YR 0) I (nC XZ.o (Below.trans (e8 L) ((az m _).mono (h3 Z5)))) (ad m.heap.size 0) 1 1 [aq wr.heap.size g g] I I (nR m _ _) (λ ZR P=>by simp at P;subst P;rfl) aX (by unfold maxLen;omega) E (by have ZY:wr.heap.size<m.heap.size:=Z5;simp;omega) _ I ?_;intro Q W w Z9 t ZM Zz;have X8:=nS t (ag (az m _) ZH) YH.o;have Ys:=nQ t (ag (az m _) ZH) (aB (az m _) ZH Yt) YH.o);all_goals (refine⟨(aq wr.heap.size g g,aq m.heap.size 1 1,aq Q (i+1) W),?_,?_⟩)
    all_goals first | (simp[aT];done) | (obtain⟨YJ,D⟩:=WG.o.put Zq.o (i:=0) E (u:=aq wr.heap.size g g) (g:=Q) (cap:=W) (w2:=w) (by rw[Y7.o.1];exact Z9) (by rw[XS.o];exact t) (by rw[XS.o];exact ZM) (λ _=>⟨wr.heap.size,rfl,bL _,(by rw[Zr.o];omega),iR.same YA.o ((az m _).block _ Z5)⟩);rw[Y7.o.1] at D;have ZI:=XZ.o;have Zs:Below e x w:=cV (Wi.trans (Zq.o.mono E)) (by rw[Zr.o];omega) t (λ l C=>(fs ZI l C).1);exact⟨_,_,_,D,Below.setCell Zs (show e<=e from bL _) _,⟨by rw[li,dm,Y7.o.1];rfl,λ v Zd=>lj Zd⟩⟩)
   ·rintro _ V ⟨WM,Zg,VH,Zl,Xw,Y9⟩;have VK:=Xw.size;have Y6:U (n7 q r i 1 (Zg 1)):=by rw[Y9.o.2 1 E];exact ZZ.o 1 E
    clear Y3 XC;obtain⟨Y2,XB⟩:=Zl.c 1 E;have YN:V.ownsRow e 209 1 (WM 1) (Zg 1).length (Zg 1):=Zl.own 1 E;rw[Y6.o.1] at YN;have YG:=ab (Zl.apart (i:=1) E);have WF:=ab Zl;obtain⟨WH,Yd⟩:∃p,WM 1=p:=⟨_,I⟩;rw[Yd] at Y2 YN YG;have XR:=ab Yd;have XY:=ab YN;clear YN Yd Zl;go_wp2;refine jT (ι:=ay×ay×ay) (λ Z2 n=>(aT (aT (aT (aT (aT (aT (aT (aT (aT (aT (aT Z2 (Z 30) (br e)) (Z 31) (br e)) (Z 32) (br e)) (Z 33) (.pointer (Z (ad e 1)))) (Z 34) (WH)) (Z 35) (M g)) (Z 36) (n.1)) (Z 37) (n.2.1)) (Z 38) (n.2.2)) (Z 39) (br e)) (Z 40) (.pointer (Z (ad e 1))))) (λ _ G=>∃(ZC:J->ay) (B:J->aU ay) (ZF:J->J),g9 G e e g ZC B ZF /\ Below e x G /\ U ((B 1).length=i+1 /\ ∀v,v≠1->B v=Zg v)) ?_ ?_
    ·obtain⟨m,Wa,Yg,L,Z5⟩:=FA V.drew g E;have ZH:=ag (e8 L) Y2;have Yt:=aB (e8 L) Y2 XB;have Zi:=Yg;have ZY:V.heap.size<m.heap.size:=Z5;have ZX:Below V.heap.size V (m.alloc (al #[aq V.heap.size g g] 209)):=Below.trans (e8 L) ((az m _).mono (h3 Z5));have Zh:(m.alloc (al #[aq V.heap.size g g] 209)).heap.size=m.heap.size+1:=ar;have Zq:=ab ZX;have Zr:=ab Zh;have YA:=ab Zi;clear ZX Zh Zi;go_region_law (refine step_append_lies _ I _ _ 206 I e 209 V3 (aa aj 0 0) 1 24 underlying206 Ws.o Yy.o.1 Yy.o.2.1 Yy.o.2.2 I aX WH i (Zg 1) I (nC XY.o (Below.trans (e8 L) ((az m _).mono (h3 Z5)))) (ad m.heap.size 0) 1 1 [aq V.heap.size g g] I I (nR m _ _) (λ ZR P=>by simp at P;subst P;rfl) aX (by unfold maxLen;omega) E (by have ZY:V.heap.size<m.heap.size:=Z5;simp;omega) _ I ?_;intro Q W w Z9 t ZM Zz;have X8:=nS t (ag (az m _) ZH) YG.o;have Ys:=nQ t (ag (az m _) ZH) (aB (az m _) ZH Yt) YG.o);all_goals (refine⟨(aq V.heap.size g g,aq m.heap.size 1 1,aq Q (i+1) W),?_,?_⟩)
     all_goals first | (simp[aT];done) | (obtain⟨YJ,D⟩:=WF.o.put Zq.o (i:=1) E (u:=aq V.heap.size g g) (g:=Q) (cap:=W) (w2:=w) (by rw[Y6.o.1];exact Z9) (by rw[XR.o];exact t) (by rw[XR.o];exact ZM) (λ _=>⟨V.heap.size,rfl,bL _,(by rw[Zr.o];omega),iR.same YA.o ((az m _).block _ Z5)⟩);rw[Y6.o.1] at D;have ZI:=XY.o;have Zs:Below e x w:=cV (Xw.trans (Zq.o.mono E)) (by rw[Zr.o];omega) t (λ l C=>(fs ZI l C).1);exact⟨_,_,_,D,Below.setCell Zs (show e<=e from bL _) _,⟨by rw[li,dm,Y6.o.1];rfl,λ v Zd=>lj Zd⟩⟩)
    ·rintro _ H ⟨WL,Zu,VG,Zk,Zy,Y8⟩;have VJ:=Zy.size;have Zo:U (n7 q r i 2 (Zu 2)):=by rw[Y8.o.2 2 E,Y9.o.2 2 E];exact ZZ.o 2 E
     clear Y2 XB;obtain⟨ZN,Yv⟩:=Zk.c 2 E;have YM:H.ownsRow e 3 1 (WL 2) (Zu 2).length (Zu 2):=Zk.own 2 E;rw[Zo.o.1] at YM;have YF:=ab (Zk.apart (i:=2) E);have WE:=ab Zk;obtain⟨ZE,Yc⟩:∃p,WL 2=p:=⟨_,I⟩;rw[Yc] at ZN YM YF;have XQ:=ab Yc;have XX:=ab YM;have XI:=(Zy.cell (p:=(ad u 1)) (by show u<e;omega)).trans X6;have XG:=(Zy.cell (p:=(ad o.heap.size 0)) (by show o.heap.size<e;omega)).trans WP;have XE:=(Zy.cell (p:=(ad o.heap.size 1)) (by show o.heap.size<e;omega)).trans X7;have Xv:ap o H:=YD.o.trans (Zy.mono E);have Yx:=(Xv.cell (p:=⟨S,Z3+i,aj⟩) W3).trans (WC.o i ZS);have Yq:=Zb.o i ZS;obtain⟨ZV,Yo⟩:∃p,O r i=p:=⟨_,I⟩;have Wx:=ab Yo;rw[Yo] at Yx Yq;have V9:=(i4 Yq.1 Yq.2 YW YV).2.2;have Wg:=Z6.below Xv;clear YM Yc Zk Yo;go_wp2;refine jT (ι:=ay×ay) (λ Z2 n=>(aT (aT (aT (aT (aT (aT (aT (aT (aT (aT (aT (aT (aT (aT (aT (aT (aT Z2 (Z 41) (br e)) (Z 42) (br e)) (Z 43) (br e)) (Z 44) (.pointer (Z (ad e 2)))) (Z 45) (ZE)) (Z 46) (.pointer (Z (ad u 1)))) (Z 47) (aa (Z ⟨S,Z3,aj⟩) g ZT)) (Z 48) (M (i:F))) (Z 49) (.pointer (Z ⟨S,Z3+i,aj⟩))) (Z 50) (M ZV)) (Z 51) (am z (Z ⟨R,Z4,aj⟩) g ZU)) (Z 52) (M Z1)) (Z 53) (M (ZV*Z1))) (Z 54) (n.1)) (Z 55) (n.2)) (Z 56) (br e)) (Z 57) (.pointer (Z (ad e 2))))) (λ _ G=>∃(ZC:J->ay) (B:J->aU ay) (ZF:J->J),g9 G e e g ZC B ZF /\ Below e x G /\ U (B 2=Zu 2++[M (ZV*Z1)] /\ ∀v,v≠2->B v=Zu v)) ?_ ?_
     ·refine gJ (λ b=>Below e H b) (λ b=>b.cell? (ad e 2)=Z ZE /\ b.frozen? (ad e 2)=ak) 14 ah ?_;refine lY ?_;have d:Below e H (dH H):=(bI H).mono E;have c:(dH H).cell? (ad e 2)=Z ZE /\ (dH H).frozen? (ad e 2)=ak:=⟨ZN,Yv⟩;refine y9 ?_;refine bX (i:=6) (v:=?_) I ah ah ah (λ _ _ _ a=>a) aX (Or.inl ⟨a6,λ b f=>?_⟩) d (λ _=>c) ?_;rotate_left
      ·have Zf:=(f.cell (p:=(ad u 1)) (show u<e from E)).trans XI;go_simp;first | done | rfl
      simp only[aT];refine qa ?_;have VO:S<e:=Nat.lt_trans W3 Xz;refine bX (i:=9) (v:=?_) I ah ah ah (λ _ _ _ a=>a) aX (Or.inl ⟨a6,λ b f=>?_⟩) d (λ _=>c) ?_;rotate_left
      ·have Zf:=(f.cell (p:=⟨S,Z3+i,aj⟩) (show S<e from E)).trans Yx;go_simp;first | done | rfl
      simp only[aT];refine bX (i:=10) (v:=?_) I ah ah ah (λ _ _ _ a=>a) aX (Or.inl ⟨a6,λ b f=>?_⟩) d (λ _=>c) ?_;rotate_left
      ·have Zf:=(f.cell (p:=(ad o.heap.size 0)) (show o.heap.size<e from E)).trans XG;have V1:=(f.cell (p:=(ad o.heap.size 1)) (show o.heap.size<e from E)).trans XE;go_simp;first | done | rfl
      simp only[aT];refine om ?_;intro k j;go_simp;refine(Wl.o _ (Wg.below (bI _))).mono ?_;rintro C m ⟨rfl,L⟩;have N:=e8 L;have ZY:=N.size;have A:Below e H m:=N.mono E;have s: m.cell? (ad e 2)=Z ZE /\ m.frozen? (ad e 2)=ak:=⟨ag N ZN,aB N ZN Yv⟩;go_simp;refine j _ _ A (λ _=>s) ?_;clear j k d c;have d:=A;have c:=s;clear A s;refine p6 ?_;refine m7 ?_;intro k j;have A:Below e H (m.alloc (al #[M (ZV*Z1)] 3)):=d.alloc E _;have s:(m.alloc (al #[M (ZV*Z1)] 3)).cell? (ad e 2)=Z ZE /\ (m.alloc (al #[M (ZV*Z1)] 3)).frozen? (ad e 2)=ak:=⟨ag (az m _) c.1,aB (az m _) c.1 c.2⟩;refine j _ _ A (λ _=>s) ?_;clear j k d c;refine mT ?_;intro k j;refine wp_append_lies _ _ _ 27 I e 3 WR (M 0) 1 8 underlying27 X2.o ZA.o.1 ZA.o.2.1 ZA.o.2.2 I aX ZE i (Zu 2) I (nC XX.o (Below.trans N ((az m _).mono ZY))) (ad m.heap.size 0) 1 1 [M (ZV*Z1)] I I (nR m _ _) (λ ZR P=>by simp at P;subst P;rfl) aX (by unfold maxLen;omega) E (by simp;omega) _ I (λ Q W w Z9 t ZM Zz=>?_);have ZI:=XX.o;have d:Below e H w:=cV A (by simp;omega) t (λ l C=>(fs ZI l C).1);have c: w.cell? (ad e 2)=Z ZE /\ w.frozen? (ad e 2)=ak:=⟨nS t s.1 YF.o,nQ t s.1 s.2 YF.o⟩;refine j _ _ d (λ _=>c) ?_;clear j k A s;refine sH ?_;have X8:=c.1;have Ys:=c.2;refine zj ?_;intro k j;refine eh ?_;clear j k;refine⟨(aq m.heap.size 1 1,aq Q (i+1) W),?_,?_⟩
      ·simp[aT]
      ·have ZX:Below H.heap.size H (m.alloc (al #[M (ZV*Z1)] 3)):=Below.trans N ((az m _).mono ZY);obtain⟨YJ,D⟩:=WE.o.put ZX (i:=2) E (u:=M (ZV*Z1)) (g:=Q) (cap:=W) (w2:=w) (by rw[Zo.o.1];exact Z9) (by rw[XQ.o];exact t) (by rw[XQ.o];exact ZM) (λ a=>bC a E);rw[Zo.o.1] at D;have Zs:Below e x w:=Zy.trans (d.mono aZ);exact wz
     ·rintro _ K ⟨WK,Zt,YJ,Zj,Zx,Zp⟩;have VI:=Zx.size;have Zn:U (n7 q r i 3 (Zt 3)):=by rw[Zp.o.2 3 E,Y8.o.2 3 E,Y9.o.2 3 E];exact ZZ.o 3 E
      clear ZN Yv XI XG XE Yx V9;obtain⟨Zm,Yu⟩:=Zj.c 3 E;have YL:K.ownsRow e 3 1 (WK 3) (Zt 3).length (Zt 3):=Zj.own 3 E;rw[Zn.o.1] at YL;have YE:=ab (Zj.apart (i:=3) E);have WD:=ab Zj;obtain⟨ZD,Yb⟩:∃p,WK 3=p:=⟨_,I⟩;rw[Yb] at Zm YL YE;have XP:=ab Yb;have XW:=ab YL;have XH:=(Zx.cell (p:=(ad o.heap.size 1)) (by show o.heap.size<e;omega)).trans X7;have XF:=(Zx.cell (p:=(ad u 0)) (by show u<e;omega)).trans WO;have XD:=(Zx.cell (p:=(ad u 1)) (by show u<e;omega)).trans X6;have Xu:ap o K:=YD.o.trans (Zx.mono E);have Yw:=(Xu.cell (p:=⟨R,Z4+i,aj⟩) W5).trans (WB.o i ZS);have D:=Zc.o i ZS;obtain⟨p,Yn⟩:∃p,O q i=p:=⟨_,I⟩;have Ww:=ab Yn;rw[Yn] at Yw D;have V8:=(i4 D.1 D.2 YT YS).2.2;have Wf:=YU.below Xu;clear YL Yb Zj Yn;go_wp2;refine jT (ι:=ay×ay) (λ Z2 n=>(aT (aT (aT (aT (aT (aT (aT (aT (aT (aT (aT (aT (aT (aT (aT (aT (aT Z2 (Z 58) (br e)) (Z 59) (br e)) (Z 60) (br e)) (Z 61) (.pointer (Z (ad e 3)))) (Z 62) (ZD)) (Z 63) (.pointer (Z (ad o.heap.size 1)))) (Z 64) (aa (Z ⟨R,Z4,aj⟩) g ZU)) (Z 65) (M (i:F))) (Z 66) (.pointer (Z ⟨R,Z4+i,aj⟩))) (Z 67) (M p)) (Z 68) (am z (Z ⟨S,Z3,aj⟩) g ZT)) (Z 69) (M Z0)) (Z 70) (M (p*Z0))) (Z 71) (n.1)) (Z 72) (n.2)) (Z 73) (br e)) (Z 74) (.pointer (Z (ad e 3))))) (λ _ G=>∃(ZC:J->ay) (B:J->aU ay) (ZF:J->J),g9 G e e g ZC B ZF /\ Below e x G /\ U (B 3=Zt 3++[M (p*Z0)] /\ ∀v,v≠3->B v=Zt v)) ?_ ?_
      ·refine gJ (λ b=>Below e K b) (λ b=>b.cell? (ad e 3)=Z ZD /\ b.frozen? (ad e 3)=ak) 14 ah ?_;refine lY ?_;have d:Below e K (dH K):=(bI K).mono E;have c:(dH K).cell? (ad e 3)=Z ZD /\ (dH K).frozen? (ad e 3)=ak:=⟨Zm,Yu⟩;refine y9 ?_;refine bX (i:=6) (v:=?_) I ah ah ah (λ _ _ _ a=>a) aX (Or.inl ⟨a6,λ b f=>?_⟩) d (λ _=>c) ?_;rotate_left
       ·have Zf:=(f.cell (p:=(ad o.heap.size 1)) (show o.heap.size<e from E)).trans XH;go_simp;first | done | rfl
       simp only[aT];refine qa ?_;have VN:R<e:=Nat.lt_trans W5 Xz;refine bX (i:=9) (v:=?_) I ah ah ah (λ _ _ _ a=>a) aX (Or.inl ⟨a6,λ b f=>?_⟩) d (λ _=>c) ?_;rotate_left
       ·have Zf:=(f.cell (p:=⟨R,Z4+i,aj⟩) (show R<e from E)).trans Yw;go_simp;first | done | rfl
       simp only[aT];refine bX (i:=10) (v:=?_) I ah ah ah (λ _ _ _ a=>a) aX (Or.inl ⟨a6,λ b f=>?_⟩) d (λ _=>c) ?_;rotate_left
       ·have Zf:=(f.cell (p:=(ad u 0)) (show u<e from E)).trans XF;have V1:=(f.cell (p:=(ad u 1)) (show u<e from E)).trans XD;go_simp;first | done | rfl
       simp only[aT];refine om ?_;intro k j;go_simp;refine(Wk.o _ (Wf.below (bI _))).mono ?_;rintro C m ⟨rfl,L⟩;have N:=e8 L;have ZY:=N.size;have A:Below e K m:=N.mono E;have s: m.cell? (ad e 3)=Z ZD /\ m.frozen? (ad e 3)=ak:=⟨ag N Zm,aB N Zm Yu⟩;go_simp;refine j _ _ A (λ _=>s) ?_;clear j k d c;have d:=A;have c:=s;clear A s;refine p6 ?_;refine m7 ?_;intro k j;have A:Below e K (m.alloc (al #[M (p*Z0)] 3)):=d.alloc E _;have s:(m.alloc (al #[M (p*Z0)] 3)).cell? (ad e 3)=Z ZD /\ (m.alloc (al #[M (p*Z0)] 3)).frozen? (ad e 3)=ak:=⟨ag (az m _) c.1,aB (az m _) c.1 c.2⟩;refine j _ _ A (λ _=>s) ?_;clear j k d c;refine mT ?_;intro k j;refine wp_append_lies _ _ _ 27 I e 3 WR (M 0) 1 8 underlying27 X2.o ZA.o.1 ZA.o.2.1 ZA.o.2.2 I aX ZD i (Zt 3) I (nC XW.o (Below.trans N ((az m _).mono ZY))) (ad m.heap.size 0) 1 1 [M (p*Z0)] I I (nR m _ _) (λ ZR P=>by simp at P;subst P;rfl) aX (by unfold maxLen;omega) E (by simp;omega) _ I (λ Q W w Z9 t ZM Zz=>?_);have ZI:=XW.o;have d:Below e K w:=cV A (by simp;omega) t (λ l C=>(fs ZI l C).1);have c: w.cell? (ad e 3)=Z ZD /\ w.frozen? (ad e 3)=ak:=⟨nS t s.1 YE.o,nQ t s.1 s.2 YE.o⟩;refine j _ _ d (λ _=>c) ?_;clear j k A s;refine sH ?_;have X8:=c.1;have Ys:=c.2;refine zj ?_;intro k j;refine eh ?_;clear j k;refine⟨(aq m.heap.size 1 1,aq Q (i+1) W),?_,?_⟩
       ·simp[aT]
       ·have ZX:Below K.heap.size K (m.alloc (al #[M (p*Z0)] 3)):=Below.trans N ((az m _).mono ZY);obtain⟨YJ,D⟩:=WD.o.put ZX (i:=3) E (u:=M (p*Z0)) (g:=Q) (cap:=W) (w2:=w) (by rw[Zn.o.1];exact Z9) (by rw[XP.o];exact t) (by rw[XP.o];exact ZM) (λ a=>bC a E);rw[Zn.o.1] at D;have Zs:Below e x w:=Zx.trans (d.mono aZ);exact wz
      ·rintro _ VW ⟨V0,WQ,VZ,We,Wh,ZB⟩;have Wp:U (∀n,n<4->n7 q r (i+1) n (WQ n)):=by
        intro n ZK;rcases(by omega:n=0 \/ n=1 \/ n=2 \/ n=3) with rfl | rfl | rfl | rfl
        ·exact⟨by rw[ZB.o.2 0 E,Zp.o.2 0 E,Y8.o.2 0 E];exact Y9.o.1,λ a=>E,λ a=>E⟩
        ·exact⟨by rw[ZB.o.2 1 E,Zp.o.2 1 E];exact Y8.o.1,λ a=>E,λ a=>E⟩
        ·refine⟨by rw[ZB.o.2 2 E,Zp.o.1,dm,Zo.o.1];rfl,λ _=>?_,λ a=>E⟩;rw[ZB.o.2 2 E,Zp.o.1,Zo.o.2.1 rfl,qO,Wx.o,Y5.o]
        ·refine⟨by rw[ZB.o.1,dm,Zn.o.1];rfl,λ a=>E,λ _=>?_⟩;rw[ZB.o.1,Zn.o.2.2 rfl,qO,Ww.o,Y4.o]
       clear Zm Yu XH XF XD Yw V8;go_wp2;go_roundw
       case rel=>exact⟨Wh,i+1,V0,WQ,VZ,E,by go_num,We,Wp⟩
       case measure=>simp[intOf];omega
  ·have YX:i=g:=E;have Xs:∀n,n<4->(Zv n).length=g:= λ n ZK=>by rw[(ZZ.o n ZK).1,YX]
   obtain⟨ZG,W8,W9,Xm,Xq⟩:=YY.done Yl Yk Xs (Lf:= λ l=>O r l*aW q) (Df:= λ l=>O q l*aW r) (by rw[(ZZ.o 2 E).2.1 rfl,YX]) (by rw[(ZZ.o 3 E).2.2 rfl,YX]);have Za:=ab (CH bY g q r (aW q) (aW r));have Wv:U (dV bY g (λ l=>O r l*aW q) (λ l=>O q l*aW r) (λ _ _=>0) (λ l=>O r l*aW q) (λ l=>O q l*aW r)):=by
    refine⟨λ _ _ _ _=>fE _,λ _ _ _ _ a=>bC I a,λ l ZL=>by rw[ks λ _ _=>rfl];omega,λ Z2 Xp=>by rw[ks λ _ _=>rfl];omega,λ l ZL=>?_,λ Z2 Xp=>?_⟩
    ·have a:=Zb.o l ZL;rw[Y5.o];exact(i4 a.1 a.2 YW YV).1
    ·have a:=Zc.o Z2 Xp;rw[Y4.o];exact(i4 a.1 a.2 YT YS).1
   have Wr:U (∀l,l<g->O r l*aW q<=1000000000000):= λ l ZL=>by have a:=Zb.o l ZL;rw[Y5.o];exact(i4 a.1 a.2 YW YV).2.1
   have Wz:U (∀l,l<g->O q l*aW r<=1000000000000):= λ l ZL=>by have a:=Zc.o l ZL;rw[Y4.o];exact(i4 a.1 a.2 YT YS).2.1
   have YC:U (ap o wr):=YD.o.trans (Y0.mono E);have WS:=YC.o.size;obtain⟨Ze,rfl⟩:∃ZR:af,ZR=wr:=⟨_,I⟩;have VP:¬(i:F)<(g:F):=E;generalize Xr:(λ l=>O r l*aW q)=ZO at *;generalize Xt:(λ l=>O q l*aW r)=ZQ at *;have Wq:U (∀l,l<g->ZO l<=1000000000000):=by rw[<- Xr];exact Wr.o
   have Wy:U (∀l,l<g->ZQ l<=1000000000000):=by rw[<- Xt];exact Wz.o
   have Wu:=ab Xm;have Wn:=ab Xq;have XT:=ab W8;have ZP:=ab W9;clear YX Xs YY ZZ Xr Xt Xm Xq W8 W9 WP X7 WO X6 Y0;go_wp2;go_loopw [9,77] (λ _ n wr=>aA e Ze.heap.size Ze wr /\ ∃(l:J) (Y:J->J->F) (y X:J->F),l<=g /\ n=M l /\ O7 ZG wr Y y X /\ U (dV bY g ZO ZQ Y y X /\ ∀i,i<l->y i=0)) (λ _ n _=>g-(intOf n).toNat)
   case atStart=>exact⟨aA.refl _ _ _,0,_,_,_,E,I,Wn.o,Wv.o,λ i Z8=>E⟩
   case round =>
    obtain⟨Z7,l,Y,y,X,ZL,rfl,ZJ,T⟩:=hrel;have WT:=Z7.size;by_cases ZS:l<g
    ·have VU:(0:F)<=(l:F):=E;have VT:(l:F)<(g:F):=E;have XU:=ab Z7;have X0:=ab ZJ;have X4:=ab T;clear Z7 ZJ T;obtain⟨VF,rfl⟩:∃ZR:af,ZR=wr:=⟨_,I⟩;go_wp2;go_loopw [] (λ wr=>aA e Ze.heap.size Ze wr /\ ∃(Y:J->J->F) (y X:J->F),O7 ZG wr Y y X /\ U (dV bY g ZO ZQ Y y X /\ ∀i,i<l->y i=0)) (λ wr=>(pj (wr.cell? ⟨ZG.L,l,aj⟩)).toNat)
     case atStart=>exact⟨XU.o,Y,y,X,X0.o,X4.o⟩
     case round =>
      clear XU X0 X4;obtain⟨Z7,Y,y,X,ZJ,T⟩:=hrel;have WT:=Z7.size;have Yp:l<ZG.N:=by rw[ZP.o];exact ZS
      have ZN:=ZJ.v2;rw[XT.o,ZP.o] at ZN;have XL:=(ZJ.l l Yp).1;have WA:=ab XL;have V6:=T.o.1.lf0 l ZS;obtain⟨p,Z6⟩:∃p,y l=p:=⟨_,I⟩;have XO:=ab Z6;rw[Z6] at XL V6;have X1:=ab ZJ;have XV:=ab Z7;clear Z6 ZJ Z7;by_cases V5:0<p
      ·have Yf:=Mv ZG e Ze.heap.size l ZO ZQ wr Y y X X1.o Wu.o WT (by rw[ZP.o];exact T.o.1) (by rw[ZP.o];exact Wq.o) (by rw[ZP.o];exact Wy.o) Yp (by rw[XO.o];exact V5);rw[XT.o] at Yf;have Wm:=ab Yf;clear Yf;go_wp2_with fail;refine Wm.o.mono ?_;rintro C VY ⟨⟨YK,rfl,Yi,Yh⟩,V7⟩;have W7:=aA.trans XV.o V7;cases YK with
       | false =>
        have Yj:=Yh I
        rw[ZP.o] at Yj
        clear Yi Yh
        go_wp2
        refine aK (v:=aL #[.pointer aj,aw ak]) (by simp[aJ,results312,go_sem]) I ⟨?_,aA.below YC.o WS W7 E⟩
        first | exact⟨_,Or.inl ⟨rfl,λ a=>Yj (Za.o.2 a)⟩⟩ | exact⟨_,_,rfl,(λ a=>by cases a),λ a=>bC (Za.o.2 a) Yj⟩
       | true =>
        obtain⟨XA,YQ,XJ,Xf,Yr,Wb,Xi⟩:=Yi I
        rw[ZP.o] at Yr
        have XK:=(Xf.l l Yp).1
        have Xb:=Yr.lf0 l ZS
        have YB:U (dV bY g ZO ZQ XA YQ XJ /\ ∀i,i<l->YQ i=0):=⟨Yr,λ i Z8=>by rw[Xi i E];exact T.o.2 i Z8⟩
        have Xe:(pj (VY.cell? ⟨ZG.L,l,aj⟩)).toNat <(pj (wr.cell? ⟨ZG.L,l,aj⟩)).toNat:=by
         rw[XK,WA.o];show (YQ l).toNat <(y l).toNat;omega
        have Wo:=ab Xe
        clear Yi Yh Xi Wb XK Xe
        go_wp2
        go_roundw
        case rel=>exact⟨W7,XA,YQ,XJ,Xf,YB⟩
        case measure=>exact Wo.o
      ·have YB:U (dV bY g ZO ZQ Y y X /\ ∀i,i<l+1->y i=0):=⟨T.o.1,λ i Z8=>by
        by_cases C:i=l
        ·rw[C,XO.o];omega
        ·exact T.o.2 i E⟩
       go_wp2
       go_roundw
       case rel=>exact⟨XV.o,l+1,Y,y,X,E,by go_num,X1.o,YB⟩
       case measure=>simp[intOf];omega
    ·have Wd:l=g:=E;have X3:U (jb bY g ZO ZQ):=Am T.o.1 (λ i Z8=>T.o.2 i E);have VS:¬(l:F)<(g:F):=E;clear Wd T;go_wp2;refine aK (v:=aL #[br e,aw ae]) (by simp[aJ,results312,go_sem]) I ⟨?_,aA.below YC.o WS Z7 E⟩;first | exact⟨_,Or.inr ⟨rfl,Za.o.1 X3.o⟩⟩ | exact⟨_,_,rfl,(λ _=>Za.o.1 X3.o),λ _=>rfl⟩
theorem Ev (a f:F) (k l:aG) (i s q t:J) (c d:ac) (b:af) (o:an b k i c) (p:an b l q d):
  aY prog 242 #[am a k i s,am f l q t] b
   λ K v=>(∃j:a8,K=aV (aw j) /\ (j=ae↔cJ a c f d=ae /\ kR bY i c d (aW c) (aW d))) /\ ap b v:=by
 cases n:cJ a c f d with
 | false =>
  go_enter func242,ntmps242
  go_wp2_with fail
  refine(qh a f _ _ _ _ _ _ c d _ (o.below aD) (p.below aD)).mono ?_;rw[n];rintro K u ⟨rfl,e⟩
  go_wp2
  go_ret
  exact⟨⟨ak,I,ar⟩,bJ e⟩
 | true =>
  have r:=ab n
  go_enter func242,ntmps242
  go_wp2_with fail
  refine(qh a f _ _ _ _ _ _ c d _ (o.below aD) (p.below aD)).mono ?_;rw[r.o];rintro K u ⟨rfl,e⟩
  have B:=aS e b.heap.size 0 (M a)
  have C:=aS e b.heap.size 1 (aa k i s)
  have D:=aS e (b.heap.size+1) 0 (M f)
  have E:=aS e (b.heap.size+1) 1 (aa l q t)
  have m:ap b u:=bJ e
  obtain⟨y,z,A⟩:aI a c=ae /\ aI f d=ae /\ a=f:=by
   have g:=r.o;unfold cJ at g;simpa using g
  subst A
  clear e n
  go_wp2_with fail
  refine(Hb a _ _ _ _ _ _ c d _ (o.below m) (p.below m) y z).mono ?_;rintro K H ⟨⟨G,j,rfl,x⟩,w⟩
  go_wp2
  go_ret
  exact⟨⟨j,I,by rw[x];exact⟨λ g=>⟨by first | exact trivial | rfl,g⟩,λ g=>g.2⟩⟩,au m w⟩
theorem E8 (i j:F) (e g:aG) (c k h l:J) (a b:ac) (f:a8) (d:af) (q:an d e c a) (r:an d g h b) (m:f=ae↔cJ i a j b=ae /\ kR bY c a b (aW a) (aW b)):
  aC 242 #[am i e c k,am j g h l] d (aw f) :=
 (Ev i j e g c k h l a b d q r).mono λ u t ⟨⟨s,o,p⟩,n⟩=>by
  obtain rfl:s=f:=by rw[Bool.eq_iff_iff,p,m]
  exact⟨o,n⟩
end Go.Proofs.YtkjnhlpccgjfhaaGreatDoor
