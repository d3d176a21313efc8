/- A part of the proof: lemmas (my texts, shortened by a program of mine). -/
import Derived.Deep.DeepCutAuto
import Derived.Test.YtkjnhlpccgjfhaaGreatDoorC29
import Derived.Test.YtkjnhlpccgjfhaaGreatDoorC32
set_option linter.all false
set_option maxRecDepth 100000
set_option maxHeartbeats 4000000
namespace Go.Proofs.YtkjnhlpccgjfhaaGreatDoor
open Go.RowKit
open Go.Proofs.Tryz
open Bool renaming false->ak,true->ae
open _root_.ByteArray renaming ext->lN,mk->aN,size->eX,size_append->cZ
open Go renaming Calls->aY,Oper->bD,Value->ay,World->af,wpQuiet_nil->dn
open Go.Ending renaming returned->aV
open Go.Obj renaming cells->al
open Go.Region renaming Mode->hY,noSelect->kb,ready->ef,wanted->jI
open Go.Value renaming agg->ba,bool->aw,slice->aa,string->aE,tuple->aL
open List renaming append_assoc->lM,getD_eq_getElem?_getD->jH,getElem?_eq_getElem->fV,map_append->g7,take_add_one->kO
open Nat renaming le_refl->bL,le_trans->ez,lt_of_lt_of_le->cm,lt_succ_self->gB
open Option renaming none->aj,some->Z
open Or renaming inl->bj,inr->aP
open _root_ renaming Array->bg,Bool->a8,Int->F,List->aU,Nat->J,absurd->bC,beq_eq_false_iff_ne->dx,if_neg->aF,if_pos->a7,rfl->I
variable {p q:Prop}
structure cA (P:J->Prop) (w w':af):Prop where
 size:w.heap.size<=w'.heap.size
 block:∀k,k<w.heap.size->¬P k->w'.heap[k]? =w.heap[k]?
theorem cA.refl (b:J->Prop) (a:af):cA b a a:=⟨bL _,λ _ _ _=>rfl⟩
theorem cA.of_below {c:J->Prop} {g h b:af} (a:ap g h) (d:cA c h b):cA c g b :=
 ⟨ez a.size d.size,λ f e i=>(d.block f (cm e a.size) i).trans (a.block f e)⟩
def ha (d:J->Prop) (b c:J) (a:J):Prop:=d a \/ (b<=a /\ a<c)
theorem cA.enter {e:J->Prop} {b j c:af} {d m:J} (a:ap b j) (l:b.heap.size<=d) (g:cA (ha e d m) j c):cA e b c :=
 ⟨ez a.size g.size,λ i h k=>(g.block i (cm h a.size) (λ f=>f.elim k (λ f=>E))).trans (a.block i h)⟩
theorem cA.leave {f:J->Prop} {i wf e:af} {b l:J} (c:aA b l i wf) (a:cA f wf e):cA (ha f b l) i e :=
 ⟨ez c.size a.size,λ d g h=>(a.block d (cm g c.size) (λ j=>h (bj j))).trans (c.block d g (by by_cases a:d<b;exact bj a;exact aP (Nat.not_lt.1 λ k=>h (aP ⟨E,k⟩))))⟩
structure pp (w:af) (g:aG) (gg:aU (ac)) (vs:aU ay):Prop where
 len:vs.length=gg.length
 cell:∀k u,vs[k]? =Z u->(∃b off,g=Z ⟨b,off,aj⟩ /\ b<w.heap.size /\ w.cell? ⟨b,off+k,aj⟩=Z u) /\ ∃a n c,u=aa a n c /\ an w a n (aO gg k)
theorem pp.rows {h:af} {f:aG} {b:aU (ac)} {d:aU ay} (c:pp h f b d) (v:b.length<=8):dj h f b.length b:=by
 refine⟨I,E,λ y=>?_⟩;have x:=c.len;obtain⟨⟨j,s,e,n,_⟩,_⟩:=c.cell 0 _ (fV (by omega:0<d.length));refine⟨j,s,e,n,λ g w=>?_⟩;obtain⟨⟨t,u,a,_,o⟩,i,r,k,q,p⟩:=c.cell g _ (fV (by omega:g<d.length));rw[e] at a;injection a with a
 injection a with l m
 subst l m;exact⟨i,r,k,by rw[o,q],p⟩
def gE (f:af) (b:J->Prop) (e:aG) (d c:J) (g:ac):Prop:=∀a,cA b f a->av a 0 (aa e d c) g
def n6 (f:af) (b:J->Prop) (c:aG) (d:aU (ac)):Prop:=∃e,∀a,cA b f a->pp a c d e
def ff (c:af) (b:J->Prop) (a:aR) (l:ay):Prop:=∃i g d j h e f k,l=ba #[M a.s,aa i g d,M a.t,aa j h e,M a.a,aa f a.gg.length k] /\ gE c b i g d a.xs /\ gE c b j h e a.ys /\ n6 c b f a.gg
theorem gE.mono {g h:af} {c b:J->Prop} {f:aG} {e d:J} {i:ac} (k:gE g c f e d i) (l:∀a,cA b h a->cA c g a):gE h b f e d i:= λ a j=>k a (l a j)
theorem n6.mono {g h:af} {d c:J->Prop} {e:aG} {f:aU (ac)} (b:n6 g d e f) (j:∀a,cA c h a->cA d g a):n6 h c e f:=b.elim λ k b=>⟨k,λ a i=>b a (j a i)⟩
theorem ff.mono {g h:af} {d b:J->Prop} {e:aR} {f:ay} (m:ff g d e f) (a:∀c,cA b h c->cA d g c):ff h b e f:=by
 obtain⟨t,r,i,u,s,j,l,k,n,o,p,q⟩:=m;exact⟨t,r,i,u,s,j,l,k,n,o.mono a,p.mono a,q.mono a⟩
theorem ff.below {d e:af} {a:J->Prop} {b:aR} {c:ay} (g:ff d a b c) (h:ap d e):ff e a b c:=g.mono λ _ f=>cA.of_below h f
theorem ff.enter {a f:af} {c:J->Prop} {d:aR} {e:ay} {b k:J} (h:ff a c d e) (j:ap a f) (i:a.heap.size<=b):ff f (ha c b k) d e:=h.mono λ _ g=>cA.enter j i g
theorem ff.leave {e wf:af} {b:J->Prop} {c:aR} {d:ay} {a i:J} (g:ff e (ha b a i) c d) (h:aA a i e wf):ff wf b c d:=g.mono λ _ f=>cA.leave h f
theorem gE.row {a:af} {f:J->Prop} {d:aG} {c b:J} {e:ac} (g:gE a f d c b e):av a 0 (aa d c b) e:=g a (cA.refl _ _)
theorem gE.new {h:af} {b:J->Prop} {c:J} {g:aG} {f d:J} {i:ac} (e:av h c (aa g f d) i) (l:∀a,b a->a<c):gE h b g f d i:= λ o j=>by
 refine(av.same e λ a n=>?_).mono (Nat.zero_le _);have m:=e.block a n;exact j.block a m.2 (λ k=>by have:=l a k;omega)
theorem nA {e:J->Prop} {g d f c:J} (h:∀a,e a->a<f) (j:f<=c) (i:d<=c):∀a,ha e g d a->a<c:= λ a b=>b.elim (λ b=>by have:=h a b;omega) (λ b=>E)
def c6 (i:FuncId) (l:ax) (k:aR) (j:ax) (g:aR):Prop :=
 ∀(b:J->Prop) (a:af) (f:ay),(∀e,b e->e<a.heap.size)->ff a b k f->aY prog i #[f,aE (ai l)] a λ h d=>(∃c,h=aV (aL #[c,aE (ai (j++[10]))]) /\ ff d b g c) /\ ap a d
structure gG (w:af) (A:J) (a0 a1 a2 a3 a4 a5 z0 z1 z2 z3 z4 z5:ay):Prop where
 e: w.cell? (ad A 0)=Z a0 /\ w.cell? (ad A 1)=Z a1 /\ w.cell? (ad A 2)=Z a2 /\ w.cell? (ad A 3)=Z a3 /\ w.cell? (ad A 4)=Z a4 /\ w.cell? (ad A 5)=Z a5
 r: w.cell? (ad (A+1) 0)=Z z0 /\ w.cell? (ad (A+1) 1)=Z z1 /\ w.cell? (ad (A+1) 2)=Z z2 /\ w.cell? (ad (A+1) 3)=Z z3 /\ w.cell? (ad (A+1) 4)=Z z4 /\ w.cell? (ad (A+1) 5)=Z z5
 f: w.frozen? (ad (A+1) 0)=ak /\ w.frozen? (ad (A+1) 1)=ak /\ w.frozen? (ad (A+1) 2)=ak /\ w.frozen? (ad (A+1) 3)=ak /\ w.frozen? (ad (A+1) 4)=ak /\ w.frozen? (ad (A+1) 5)=ak
 z:A+1<w.heap.size
theorem jU {w h:af} {a b c d e f i j k l m n:ay} {g:TypeId} (o:(w.alloc (al #[a,b,c,d,e,f] g)).alloc (al #[i,j,k,l,m,n] g)=h):gG h w.heap.size a b c d e f i j k l m n:=by
 subst o;refine⟨⟨?_,?_,?_,?_,?_,?_⟩,⟨?_,?_,?_,?_,?_,?_⟩,⟨?_,?_,?_,?_,?_,?_⟩,?_⟩;all_goals simp
theorem gG.below {o w':af} {b:J} {c d e f g h p q r s t u:ay} (H:gG o b c d e f g h p q r s t u) (a:ap o w'):gG w' b c d e f g h p q r s t u:=by
 obtain⟨⟨v,w,x,y,z,A⟩,⟨i,j,k,l,m,n⟩,⟨B,C,D,E,F,G⟩,I⟩:=H;exact⟨⟨ag a v,ag a w,ag a x,ag a y,ag a z,ag a A⟩,⟨ag a i,ag a j,ag a k,ag a l,ag a m,ag a n⟩,⟨aB a i B,aB a j C,aB a k D,aB a l E,aB a m F,aB a n G⟩,cm I a.size⟩
theorem cq {i a:af} {b:J} {c d e f g h j k l m n o:ay} (B:gG i b c d e f g h j k l m n o) (C:ap i a):
  a.cell? (ad b 0)=Z c /\ a.cell? (ad b 1)=Z d /\ a.cell? (ad b 2)=Z e /\ a.cell? (ad b 3)=Z f /\ a.cell? (ad b 4)=Z g /\ a.cell? (ad b 5)=Z h /\
  a.cell? (ad (b+1) 0)=Z j /\ a.cell? (ad (b+1) 1)=Z k /\ a.cell? (ad (b+1) 2)=Z l /\ a.cell? (ad (b+1) 3)=Z m /\ a.cell? (ad (b+1) 4)=Z n /\ a.cell? (ad (b+1) 5)=Z o /\
  a.frozen? (ad (b+1) 0)=ak /\ a.frozen? (ad (b+1) 1)=ak /\ a.frozen? (ad (b+1) 2)=ak /\ a.frozen? (ad (b+1) 3)=ak /\ a.frozen? (ad (b+1) 4)=ak /\ a.frozen? (ad (b+1) 5)=ak:=by
 obtain⟨⟨p,q,r,s,t,u⟩,⟨D,E,F,G,H,I⟩,⟨v,w,x,y,z,A⟩,_⟩:=B.below C;exact⟨p,q,r,s,t,u,D,E,F,G,H,I,v,w,x,y,z,A⟩
theorem eP {a b:af} {B:J} (d:ap a b) (c:a.heap.size<=B) (e f g h i j:ay):Below a.heap.size a ((((((b.setCell (ad B 0) e).setCell (ad B 1) f).setCell (ad B 2) g).setCell (ad B 3) h).setCell (ad B 4) i).setCell (ad B 5) j):=by
 refine Below.setCell (Below.setCell (Below.setCell (Below.setCell (Below.setCell (Below.setCell d ?_ _) ?_ _) ?_ _) ?_ _) ?_ _) ?_ _;all_goals exact c
theorem ie {w2:af} {A B C:J} (a:A<=C) (b:C<B) (c d e f g h:ay):aA A B w2 ((((((w2.setCell (ad C 0) c).setCell (ad C 1) d).setCell (ad C 2) e).setCell (ad C 3) f).setCell (ad C 4) g).setCell (ad C 5) h) :=
 (((((aA.set ⟨a,b⟩).trans (aA.set ⟨a,b⟩)).trans (aA.set ⟨a,b⟩)).trans (aA.set ⟨a,b⟩)).trans (aA.set ⟨a,b⟩)).trans (aA.set ⟨a,b⟩)
section
variable {P : Program} {md : hY} {ops : bg bD} {Q : Exit → Act → af → Prop} {S : af → Prop}
theorem eq (c:J) {d:bD} {v:ay} {h j:J} {e:bg a8} {a:Act} {b:af} (n:ops[c]? =Z d) (l:S b) (s:∀f,S f->(execOp a.eval d).run P f=.ok (.value v) f)
  (g:de P md ops Q S (λ _=>True) h j (e.setIfInBounds c ae) (a.put d.dst v) b)
  (q:kb ops=ae:=by kernel_rfl) (m:Region.free md ops e c=ae:=by kernel_rfl) (p:(ef md ops e).contains c=ae:=by kernel_rfl)
  (k:∀i a b,Q (.panic i) (a.put d.dst v) b->Q (.panic i) a b:=by exact(λ _ _ _ g=>g)) (o:c≠h:=by decide) (r:jI d (yielded ops a.tmps)=ae:=by rfl):
  de P md ops Q S (λ _=>True) h (j+1) e a b :=
 bX n q m p k o (Or.inl ⟨r,s⟩) l (λ _=>trivial) g
theorem bR (d:J) {g:bD} {i h:J} {f:bg a8} {e:Act} {j:af} (o:ops[d]? =Z g)
  (k:∀c:Act->af->Prop,(∀b a,S a->de P md ops Q S (λ _=>True) i h (f.setIfInBounds d ae) b a->c b a)->Oper.wp P g e j c Q)
  (p:ef md ops f=[d]:=by kernel_rfl) (q:jI g (yielded ops e.tmps)=ae:=by rfl):de P md ops Q S (λ _=>True) i (h+1) f e j :=
 e7 d o p q λ c n=>k c λ b a l m=>n b a l (λ _=>trivial) m
end
theorem zu {b:af} {a:J} (c d e f g h:ay):aA a (a+1) b ((((((b.setCell (ad a 0) c).setCell (ad a 1) d).setCell (ad a 2) e).setCell (ad a 3) f).setCell (ad a 4) g).setCell (ad a 5) h):=ie aZ (gB _) _ _ _ _ _ _
theorem eJ {k b:af} {a:J} {e f g h i j s t u v w x:ay} (r:gG k a e f g h i j s t u v w x) (d:aA (a+1) (a+1+1) k b):
  b.cell? (ad a 0)=Z e /\ b.cell? (ad a 1)=Z f /\ b.cell? (ad a 2)=Z g /\ b.cell? (ad a 3)=Z h /\ b.cell? (ad a 4)=Z i /\ b.cell? (ad a 5)=Z j:=by
 obtain⟨l,m,n,o,p,q⟩:=r.e;have c:a<a+1 \/ a+1+1<=a:=bj (gB _);exact⟨d.keep l c,d.keep m c,d.keep n c,d.keep o c,d.keep p c,d.keep q c⟩
theorem le (b:a8) (a:ax) (c:af) (g:a.length<=1000000):aY prog 40 #[aw b,aE (ai a)] c λ f d=>f=aV (aE (ai ((if b then a else [110,111])++[10]))) /\ c=d:=by
 have i:¬9223372036854775807<(ai a).size +(aN #[10]).size:=by rw[bs];simp[eX];omega
 have e:U (ai a++aN #[10]=ai (a++[10])):=by rw[U,show aN #[10]=ai [10] from I,dd]
 cases b
 ·go_enter func40,ntmps40;exact h8
 ·go_enter func40,ntmps40;go_wp2;go_ret;exact⟨by rw[e.o];rfl,I⟩
theorem DL (d:bb) (p:af):aC 25 #[ba #[M d.num,M d.den],aw d.ok] p (aE (ai (cM d++[10]))):=by
 obtain⟨b,c,e⟩:=d;have k:=q4 b c;have j:U (∀a,aC 71 #[ba #[M b,M c]] a (aE (ai (bG b c)))):= λ a=>th b c a
 have g:U (∀a,aY prog 40 #[aw e,aE (ai (bG b c))] a λ f i=>f=aV (aE (ai (cM ⟨b,c,e⟩++[10]))) /\ a=i):= λ a=>le e (bG b c) a E
 clear k;generalize ai (cM ⟨b,c,e⟩++[10])=m at g ⊢;go_enter func25,ntmps25;go_wp2_with fail;refine(j.o _).mono ?_;rintro f n ⟨rfl,l⟩;go_wp2_with fail;refine(g.o _).mono ?_;rintro f o ⟨rfl,rfl⟩;go_wp2;go_ret;exact⟨I,au (az p _) l⟩
theorem EV (a:a8) (b:af):aY prog 32 #[aw a] b λ d c=>d=aV (aE (ai (iE a++[10]))) /\ b=c:=by
 cases a
 ·go_enter func32,ntmps32;exact h8
 ·go_enter func32,ntmps32;exact h8
def Db (a b c d:a8):aU (ax) :=
 (if a then [[110,111,114,109,97,108]] else [])++(if b then [[99,104,97,110,99,101]] else [])++(if c then [[110,101,115,116,101,100]] else [])++(if d then [[105,110,100,101,112,101,110,100,101,110,116]] else [])
def uY (a b c d:a8):ax:=if Db a b c d=[] then [45] else Lib.join (Db a b c d) [32]
def pd (a b c d:a8):ax:=(((if a then [32,110,111,114,109,97,108] else [])++if b then [32,99,104,97,110,99,101] else [])++if c then [32,110,101,115,116,101,100] else [])++if d then [32,105,110,100,101,112,101,110,100,101,110,116] else []
theorem KV (a b c d:a8):uY a b c d++[10]=if pd a b c d=[] then [45,10] else (pd a b c d).drop 1++[10]:=by cases a<;>cases b<;>cases c<;>cases d<;>decide +kernel
theorem Ii (c:F) (e:aG) (f m:J) (d:ac) (A:af) (ZY:an A e f d) (Z0:aI c d=ae):
  aC 24 #[am c e f m] A (aE (ai (i5 c d++[10]))):=by
 obtain⟨g,R⟩:∃p,ci c d=p:=⟨_,I⟩;obtain⟨i,S⟩:∃p,gN c d=p:=⟨_,I⟩;obtain⟨j,T⟩:∃p,iJ (bQ d d.length)=p:=⟨_,I⟩;obtain⟨k,V⟩:∃p,lz c d=p:=⟨_,I⟩;have Z1:U (i5 c d=uY g i j k):=by rw[U,<- R,<- S,<- T,<- V];rfl
 have Z7:U (∀b,an b e f d->aC 67 #[am c e f m] b (aw g)):= λ b n=>by rw[<- R];exact iA c _ _ _ d b n
 have Z6:U (∀b,an b e f d->aC 68 #[am c e f m] b (aw i)):= λ b n=>by rw[<- S];exact E0 c _ _ _ d b n
 have Z5:U (∀b,an b e f d->aC 69 #[am c e f m] b (aw j)):= λ b n=>by rw[<- T];have ZR:=n.len;rw[ZR];exact F3 c _ _ _ d b n Z0
 have Z4:U (∀b,an b e f d->aC 70 #[am c e f m] b (aw k)):= λ b n=>by rw[<- V];exact DT c _ _ _ d b n
 have X:=ZY.below (az A (al #[M c,aa e f m] 29));rw[Z1.o];obtain⟨w,W⟩:∃w,uY g i j k++[10]=w:=⟨_,I⟩;have Z2:U (w=if pd g i j k=[] then [45,10] else (pd g i j k).drop 1++[10]):=by rw[U,<- W];exact KV g i j k
 rw[W];clear R S T V Z0 ZY Z1 W;go_enter func24,ntmps24;go_wp2_with fail;refine(Z7.o _ X).mono ?_;rintro Q ZQ ⟨rfl,C⟩;have y:=aS C A.heap.size 0 (M c);have z:=aS C A.heap.size 1 (aa e f m);have Y:=X.below C;have l:=au (az A (al #[M c,aa e f m] 29)) C;clear C X Z7;go_upto_if 5 with fail
 go_cut [3] (λ q r=>q=aE (ai (if g then [32,110,111,114,109,97,108] else [])) /\ r=ZQ)
 case first =>
  cases g
  ·exact pD
  ·have P:U (aN #[]++aN #[32,110,111,114,109,97,108]=ai [32,110,111,114,109,97,108]):=by rw[U,show aN #[]=ai [] from I,show aN #[32,110,111,114,109,97,108]=ai [32,110,111,114,109,97,108] from I,dd];rfl
   skip;exact pI
 case rest =>
 obtain⟨rfl,rfl⟩:=hcut;obtain⟨t,K⟩:∃o:ax,(if g then [32,110,111,114,109,97,108] else [])=o:=⟨_,I⟩;have ZX:=ab K;have ZL:t.length<=13:=by rw[<- K];cases g<;>simp<;>omega
 rw[K];clear K;go_wp2_with fail;refine(Z6.o _ Y).mono ?_;rintro Q ZP ⟨rfl,D⟩;replace y:=ag D y;replace z:=ag D z;have ZF:=Y.below D;replace l:=au l D;clear D Y Z6;go_upto_if 9 with fail
 go_cut [3] (λ q r=>q=aE (ai (t++if i then [32,99,104,97,110,99,101] else [])) /\ r=ZP)
 case first =>
  cases i
  ·exact pD
  ·have P:U (ai t++aN #[32,99,104,97,110,99,101]=ai (t++[32,99,104,97,110,99,101])):=by rw[U,show aN #[32,99,104,97,110,99,101]=ai [32,99,104,97,110,99,101] from I,dd]
   have Z8:¬9223372036854775807<(ai t).size +(aN #[32,99,104,97,110,99,101]).size:=by rw[bs];simp[eX];omega
   exact pI
 case rest =>
 obtain⟨rfl,rfl⟩:=hcut;obtain⟨u,L⟩:∃o:ax,(t++if i then [32,99,104,97,110,99,101] else [])=o:=⟨_,I⟩;have ZW:=ab L;have ZK:u.length<=26:=by rw[<- L];cases i<;>simp<;>omega
 rw[L];clear L;go_wp2_with fail;refine(Z5.o _ ZF).mono ?_;rintro Q ZO ⟨rfl,G⟩;replace y:=ag G y;replace z:=ag G z;have Z9:=ZF.below G;replace l:=au l G;clear G ZF Z5;go_upto_if 13 with fail
 go_cut [3] (λ q r=>q=aE (ai (u++if j then [32,110,101,115,116,101,100] else [])) /\ r=ZO)
 case first =>
  cases j
  ·exact pD
  ·have P:U (ai u++aN #[32,110,101,115,116,101,100]=ai (u++[32,110,101,115,116,101,100])):=by rw[U,show aN #[32,110,101,115,116,101,100]=ai [32,110,101,115,116,101,100] from I,dd]
   have Z8:¬9223372036854775807<(ai u).size +(aN #[32,110,101,115,116,101,100]).size:=by rw[bs];simp[eX];omega
   exact pI
 case rest =>
 obtain⟨rfl,rfl⟩:=hcut;obtain⟨v,N⟩:∃o:ax,(u++if j then [32,110,101,115,116,101,100] else [])=o:=⟨_,I⟩;have ZV:=ab N;have ZJ:v.length<=39:=by rw[<- N];cases j<;>simp<;>omega
 rw[N];clear N;go_wp2_with fail;refine(Z4.o _ Z9).mono ?_;rintro Q ZN ⟨rfl,H⟩;replace y:=ag H y;replace z:=ag H z;have ZG:=Z9.below H;replace l:=au l H;clear H Z9 Z4;go_upto_if 17 with fail
 go_cut [3] (λ q r=>q=aE (ai (v++if k then [32,105,110,100,101,112,101,110,100,101,110,116] else [])) /\ r=ZN)
 case first =>
  cases k
  ·exact pD
  ·have P:U (ai v++aN #[32,105,110,100,101,112,101,110,100,101,110,116]=ai (v++[32,105,110,100,101,112,101,110,100,101,110,116])):=by rw[U,show aN #[32,105,110,100,101,112,101,110,100,101,110,116]=ai [32,105,110,100,101,112,101,110,100,101,110,116] from I,dd]
   have Z8:¬9223372036854775807<(ai v).size +(aN #[32,105,110,100,101,112,101,110,100,101,110,116]).size:=by rw[bs];simp[eX];omega
   exact pI
 case rest =>
 obtain⟨rfl,rfl⟩:=hcut;obtain⟨a,O⟩:∃o:ax,(v++if k then [32,105,110,100,101,112,101,110,100,101,110,116] else [])=o:=⟨_,I⟩;have ZU:=ab O;have ZI:a.length<=52:=by rw[<- O];cases k<;>simp<;>omega
 rw[O];clear O;have Z3:U (pd g i j k=a):=by rw[U,<- ZU.o,<- ZV.o,<- ZW.o,<- ZX.o];rfl
 by_cases x:a=[]
 ·have s:U (w=[45,10]):=by rw[U,Z2.o,Z3.o,a7 x]
  subst x;refine p8 ?_;intro B;exact rT
 ·have s:U (w=a.drop 1++[10]):=by rw[U,Z2.o,Z3.o,aF x]
  have B:(ai a).toList.isEmpty=ak:=kr a ak (by cases a with | nil=>exact bC I x | cons _ _=>rfl);have ZM:0<a.length:=by cases a with | nil=>exact bC I x | cons _ _=>simp
  have ZT:U ((ai a).extract 1 (ai a).size++aN #[10]=ai w):=by
   have ZS:(ai a).extract 1 (ai a).size=ai (a.drop 1):=by
    apply lN;apply Array.ext';rw[qI,cE];show a.tail=(a.drop 1).toArray.toList;rw[List.drop_one]
   rw[U,ZS,show aN #[10]=ai [10] from I,dd,s.o]
  have ZZ:(ai a).size=a.length:=bs _;have Z8:¬9223372036854775807<((ai a).extract 1 (ai a).size).size +(aN #[10]).size:=by rw[uf,ZZ];simp[eX];omega
  have ZH:1<=(ai a).size:=E;clear x ZZ;go_wp2;go_ret;exact⟨by rw[<- ZT.o];rfl,l⟩
theorem Gh (c:F) (p:aG) (q w:J) (d:ac) (v:af) (Z3:an v p q d):
  aC 37 #[am c p q w] v (aE (ai (hv c d++[10]))):=by
 have O:=ab (qH c (co c d));have S:=qx c d;have r:U (∀e,an e p q d->aY prog 86 #[am c p q w] e λ x K=>(∃Z0,x=aV Z0 /\ da K e.heap.size Z0 (co c d).length (λ _=>c) (aO (co c d))) /\ ap e K):= λ e f=>Ah c _ _ _ d e f
 have L:U (hv c d++[10]=if co c d=[] then [45,10] else eL ((co c d).map (bd c))):=by
  rw[U];unfold hv;by_cases f:co c d=[]
  ·rw[a7 f,a7 f];rfl
  ·rw[aF f,aF f];exact ug c f
 rw[L.o];obtain⟨a,T⟩:∃a,co c d=a:=⟨_,I⟩;rw[T] at O r S ⊢;obtain⟨i,z⟩:∃i,a.length=i:=⟨_,I⟩;rw[z] at O r S;have P:=ab z;have Z2:=Z3.below (az v (al #[M c,aa p q w] 29));clear T z Z3 L;obtain⟨u,A⟩:∃u,(if a=[] then [45,10] else eL (a.map (bd c)))=u:=⟨_,I⟩;have Q:=ab A;rw[A];clear A;go_enter func37,ntmps37;go_wp2_with fail;refine(r.o _ Z2).mono ?_;rintro x ZO ⟨⟨ZB,rfl,Z4⟩,Zz⟩;obtain⟨ZM,ZK,rfl,ZV⟩:=Z4.form;have ZW:=au (az v _) Zz;clear Zz Z2 Z4 r;go_wp2;go_loopw [4,5] (λ ZP H wr=>∃(b:J),b<=i /\ H=M b /\ ZP=aE (ai (eL ((a.take b).map (bd c)))) /\ ap ZO wr) (λ _ H _=>i-(intOf H).toNat)
 case atStart=>exact⟨0,E,I,I,Below.refl _ _⟩
 case round =>
  obtain⟨b,ZG,rfl,rfl,C⟩:=hrel;have l:=au ZW C;by_cases Z5:b<i
  ·have ZF:(0:F)<=(b:F):=E;have ZE:(b:F)<(i:F):=E;obtain⟨ZL,R,Z1,ZY,ZX,_,ZJ,ZI,ZH,Z9⟩:=ZV.at C Z5;subst ZX;have n:b<a.length:=by rw[P.o];exact Z5
   have t:U (eL ((a.take (b+1)).map (bd c))=eL ((a.take b).map (bd c))++(bd c (aO a b)++[10])):=by
    rw[U,kO,fV n,g7,Kj];congr 1;show bd c a[b]++10::[]=_;exact yc
   have Z7:=qH c (a.take b);have Z6:(a.take b).length<=b:=List.length_take_le _ _;have D:=hJ c (aO a b);obtain⟨j,X⟩:∃j,aO a b=j:=⟨_,I⟩;rw[X] at Z9 t D;obtain⟨g,W⟩:∃g,eL ((a.take b).map (bd c))=g:=⟨_,I⟩;rw[W] at t Z7 ⊢;have ZS:g.length<=221*b:=by have:=Nat.mul_le_mul_left 221 Z6;omega
   have ZR:g.length<=6000:=E;have N:U (∀e,an e R Z1 j->aC 22 #[am c R Z1 ZY] e (aE (ai (bd c j)))):= λ e f=>k9 c _ _ _ j e f
   obtain⟨k,Y⟩:∃k,bd c j=k:=⟨_,I⟩;rw[Y] at t N D;have ZD:¬9223372036854775807<(ai g).size +(ai k).size:=by rw[bs,bs];omega
   have ZC:¬9223372036854775807<(ai g++ai k).size +(aN #[10]).size:=by rw[cZ,bs,bs];simp[eX];omega
   have ZZ:U (ai g++ai k++aN #[10]=ai (g++(k++[10]))):=by rw[U,show aN #[10]=ai [10] from I,dd,dd,lM]
   clear n X W Y Z7 Z6 D ZS ZR;go_wp2_with fail;refine(N.o _ Z9).mono ?_;rintro x ZA ⟨rfl,ZU⟩;have ZT:=au C ZU;go_wp2;go_roundw
   case rel=>exact⟨b+1,E,by go_num,by rw[t.o,<- ZZ.o],ZT⟩
   case measure=>simp[intOf];omega
  ·obtain rfl:b=i:=E;have y:a.take b=a:=by rw[<- P.o];exact List.take_length
   rw[y];by_cases m:a=[]
   ·have s:U (u=[45,10]):=by rw[U,<- Q.o,a7 m]
    have Z8:eL (a.map (bd c))=[]:=by rw[m];rfl
    rw[Z8];refine p8 ?_;intro B;clear Z8 y m;exact rT
   ·have s:U (u=eL (a.map (bd c))):=by rw[U,<- Q.o,aF m]
    have G:eL (a.map (bd c))≠[]:=by
     cases a with
     | nil=>exact bC I m
     | cons ZN ZQ=>show bd c ZN++10::eL (ZQ.map (bd c))≠[];simp
    obtain⟨o,V⟩:∃o,eL (a.map (bd c))=o:=⟨_,I⟩;rw[V] at G s ⊢;have B:(ai o).toList.isEmpty=ak:=kr o ak (by cases o with | nil=>exact bC I G | cons _ _=>rfl);clear y m G V;exact rT
structure bW (D B:J) (w w':af):Prop where
 os:w'.os=w.os
 tape:w'.tape=w.tape
 output:w'.output=w.output
 size:w.heap.size<=w'.heap.size
 block:∀k,k<w.heap.size->k<B->k≠D->w'.heap[k]? =w.heap[k]?
theorem bW.refl (c b:J) (a:af):bW c b a a:=⟨I,I,I,bL _,λ _ _ _ _=>rfl⟩
theorem bW.trans {k j:J} {a d e:af} (b:bW k j a d) (c:bW k j d e):bW k j a e :=
 ⟨c.os.trans b.os,c.tape.trans b.tape,c.output.trans b.output,ez b.size c.size,λ i h f g=>(c.block i (cm h b.size) f g).trans (b.block i h f g)⟩
theorem bW.of_span {b h:J} {c d:af} (a:aA b (b+1) c d):bW b h c d:=⟨a.os,a.tape,a.output,a.size,λ f e _ g=>a.block f e E⟩
theorem bW.of_below {D B:J} {b c:af} (a:ap b c):bW D B b c:=⟨a.os,a.tape,a.output,a.size,λ e d _ _=>a.block e d⟩
theorem bW.grown {g c:J} {d e:af} {f:Option J} (a:d.grownBy e f) (j:∀b,f=Z b->c<=b):bW g c d e :=
 ⟨a.os,a.tape,a.output,a.size,λ b i k _=>a.block b i (λ h=>by have:=j b h.symm;omega)⟩
theorem bW.below {d B c:J} {h e f:af} (a:Below c h e) (l:c<=e.heap.size) (b:bW d B e f) (k:c<=d) (j:d<B):Below c h f :=
 ⟨b.os.trans a.os,b.tape.trans a.tape,b.output.trans a.output,ez a.size b.size,λ g i=>(b.block g E E E).trans (a.block g i)⟩
def aR.ds (a:aR) (b:ay):gT:=⟨a.s,a.xs,a.t,a.ys,a.a,b⟩
structure eY (w:af) (D B:J) (st:aR) (g:ay):Prop where
 desk:dT w D (st.ds g)
 rows:cY w B g st.gg
 nil:st.gg=[]->g.ownBlock=aj
 lt:D<B
 bw:B<=w.heap.size
theorem eY.below {f w':af} {c B:J} {e:aR} {d:ay} (a:eY f c B e d) (b:ap f w'):eY w' c B e d :=
 ⟨a.desk.below b,a.rows.below b,a.nil,a.lt,ez a.bw b.size⟩
theorem eY.span {i d:af} {a k:J} {h c:aR} {e:ay} (b:eY i a k h e) (g:aA a (a+1) i d) (j:dT d a (c.ds e)) (f:c.gg=h.gg):eY d a k c e :=
 ⟨j,by rw[f];exact b.rows.span g b.lt,by rw[f];exact b.nil,b.lt,ez b.bw g.size⟩
def e0 (l:ax) (k:aR) (j:ax) (g:aR):Prop :=
 ∀(d b:af) (a c:J) (i:ay),dp d->d.heap.size<=a->ap d b->eY b a c k i ->
  aY prog 49 #[br a,aE (ai l)] b λ h e=>h=aV (aE (ai j)) /\ (∃f,eY e a c g f) /\ bW a c b e
def rM (j:ax) (l:aR) (k:ax) (g:aR):Prop :=
 ∀(d b:af) (a c:J) (i:ay),dp d->d.heap.size<=a->ap d b->eY b a c l i ->
  aY prog 15 #[br a,aE (ai j)] b λ h e=>h=aV (aE (ai k)) /\ (∃f,eY e a c g f) /\ bW a c b e
def fv (i:ax) (c:aR) (h:ax):Prop :=
 ∀(a:af) (d:J) (f:ay),dp a->dT a d (c.ds f)->(∃e b g,f=aa e b g /\ b=c.gg.length /\ dj a e b c.gg) ->
  aC 138 #[br d,aE (ai i)] a (aE (ai h))
theorem zF {k j e:af} {b m:J} {c:aR} {d:ay} {a:bc} {f:aG} {i g:J} (r:eY j b m c d) (z:dp k) (w:k.heap.size<=b) (n:ap k j) (o:ap j e) (s:av e j.heap.size (aa f i g) a.parts):
  aY prog 121 #[br b,am a.size f i g,aw a.ok] e λ h l=>h=aV (aE (ai (bf c a).1)) /\ (∃u,eY l b m (bf c a).2 u) /\ bW b m e l:=by
 have B:=r.desk.lt;have y:(aa f i g).ownBlock≠Z b:= λ h=>by have A:=(s.block _ h).1;omega
 have p:=r.below o;refine(I8 k e b (c.ds d) a f i g z w (n.trans (o.mono n.size)) p.desk (s.mono (Nat.zero_le _)) y).mono ?_;rintro h l ⟨x,q,t⟩;have v:kK (c.ds d) a=(fi c a).ds d:=by unfold kK fi;split<;>rfl
 rw[v] at q;exact⟨x,⟨d,p.span t q (by show (fi c a).gg=_;unfold fi;split<;>rfl)⟩,bW.of_span t⟩
theorem Eg (a:F) (l: -1<=a) (i:a<=8) (c:af) (f:hC c):
  aC 245 #[M a] c (aE (ai (hw a))):=by
 by_cases b:a= -1
 ·subst b;go_enter func245,ntmps245;exact jP
 ·have d:U (hw a=Lib.itoa a):=aF b;have j:(a== -1)=ak:=by rw[dx];exact b
  rw[d.o];clear b;go_enter func245,ntmps245;go_wp2_with fail;refine(kC a E E _ f).mono ?_;rintro g k ⟨rfl,e⟩;go_wp2;go_ret;exact⟨I,e⟩
theorem Fy (s b:af) (i:J) (a:gT) (K:dp s) (G:ap s b) (f:dT b i a) (n:ci a.s a.xs=ak):
  aC 244 #[br i] b (aE (ai [45])):=by
 obtain⟨v,z,k,d,o,H⟩:=f.m;have F:=f.c0;have j:U (co a.s a.xs=[]):=by rw[U];unfold co;rw[n];rfl
 have t:U (∀c,ap b c->aY prog 314 #[am a.s v z k] c λ l O=>(∃r,l=aV r /\ da O c.heap.size r 0 (λ _=>a.s) (aO [])) /\ ap c O):= λ c w=>by
  have d:=z9 a.s _ _ k a.xs c (o.view.below w);rw[j.o] at d;exact d
 clear n f o j;go_enter func244,ntmps244;go_wp2_with fail;obtain⟨q,g⟩:∃A:af,b.alloc (al #[] 9)=A:=⟨_,I⟩;rw[g];have e:ap b q:=by rw[<- g];exact az _ _
 clear g;refine(t.o q e).mono ?_;rintro l B ⟨⟨N,rfl,y⟩,m⟩;obtain⟨D,E,rfl,x⟩:=y.form;clear x;have u:=au e m;clear m e;go_wp2;go_loopw [3,5,13] (λ C L p wr=>p=M 0 /\ C=aq b.heap.size 0 0 /\ wr=B) (λ _ _ p _=>0)
 case atStart=>exact⟨I,I,I⟩
 case round =>
  obtain⟨rfl,rfl,rfl⟩:=hrel;exact lV
theorem fL {a:ax} {c:aR} {x:ax} (G:a.length<=100000) (f:a≠[97,110,100]) (p:a≠[111,114]) (u:a≠[120,111,114]) (l:a≠[106,111,105,110]) (v:a≠[121,97,103,101,114]) (o:a≠[110,111,116]) (n:a≠[110,111,114,109,97,108]) (t:a≠[115,104,97,114,101,100]) (Z8:a≠[99,117,116]) (m:a≠[108,101,97,114,110]) (k:a≠[102,111,99,117,115]) (j:a≠[102,105,114,115,116]) (s:a≠[115,101,99,111,110,100]) (q:a≠[112,97,105,114]) (r:a≠[112,97,115,115]) (i:a≠[101,120,99,104,97,110,103,101]) (g:a≠[99,108,101,97,114]) (d:fv a c x):e0 a c x c:=by
 intro Z C y D e B F A b;have H:=bn f;have S:=bn p;have X:=bn u;have O:=bn l;have Y:=bn v;have R:=bn o;have Q:=bn n;have W:=bn t;have K:=bn Z8;have P:=bn m;have N:=bn k;have M:=bn j;have V:=bn s;have T:=bn q;have U:=bn r;have L:=bn i;have J:=bn g;have z:=ab (d C y e (B.below A) b.desk b.rows.form);clear f p u l v o n t Z8 m k j s q r i g d;go_enter func49,ntmps49;go_wp2_with fail;refine z.o.mono ?_;rintro E Z9 ⟨rfl,w⟩;go_wp2;go_ret;exact⟨I,⟨e,b.below w⟩,bW.of_below w⟩
theorem NT {a:ax} (u:aR) (l:a≠[108,101,102,116]) (o:a≠[114,105,103,104,116]) (q:a≠[115,101,116]) (k:a≠[107,105,110,100,115]) (b:a≠[98,101,108,105,101,102]) (n:a≠[112,111,115,115,105,98,108,101]) (e:a≠[99,104,97,110,99,101]) (r:a≠[115,105,122,101]) (g:a≠[99,111,110,116,111,117,114]) (f:a≠[99,111,110,102,108,105,99,116]) (i:a≠[100,105,115,116,97,110,99,101]) (s:a≠[115,112,101,99,105,97,108,105,122,101,100]) (m:a≠[108,101,115,115]) (V:a≠[99,111,114,110,101,114,115]) (p:a≠[115,97,102,101,115,116]) (d:a≠[98,111,108,100,101,115,116]) (j:a≠[101,118,101,110]) (t:a≠[117,110,98,101,97,116,101,110]) (c:a≠[98,101,115,116]):fv a u iK:=by
 intro U v w z x y;have L:=bn l;have O:=bn o;have Q:=bn q;have K:=bn k;have A:=bn b;have N:=bn n;have D:=bn e;have R:=bn r;have F:=bn g;have E:=bn f;have H:=bn i;have S:=bn s;have M:=bn m;have G:=bn V;have P:=bn p;have C:=bn d;have J:=bn j;have T:=bn t;have B:=bn c;clear l o q k b n e r g f i s m V p d j t c;go_enter func138,ntmps138;exact jP
theorem NU (a:aR):fv [108,101,102,116] a (bd a.s a.xs):=by
 refine mV ?_;intro o;refine hE ?_;intro t u v d f k p q s i b l x g m y j n w;have A:=g.view;have z:U (∀c,an c d f a.xs->dp c->aC 137 #[am a.s d f k] c (aE (ai (bd a.s a.xs)))):= λ c B C=>ma a.s _ _ _ a.xs c B C
 clear b l g m j n;go_enter func138,ntmps138;go_wp2_with fail;refine(z.o _ (A.below aD) (i.below aD)).mono ?_;rintro E r ⟨rfl,e⟩;exact wd
theorem MS (a:aR):fv [114,105,103,104,116] a (bd a.t a.ys):=by
 refine mW ?_;intro o;intro t v z m c k;rw[o.o];obtain⟨w,E,x,A,q,n⟩:=c.m;obtain⟨d,g,j,C,f,p⟩:=c.n;have B:=c.c2;have l:=f.view;have i:U (∀b,an b d g a.ys->dp b->aC 137 #[am a.t d g j] b (aE (ai (bd a.t a.ys)))):= λ b s u=>ma a.t _ _ _ a.ys b s u
 clear c k q n f p;go_enter func138,ntmps138;go_wp2_with fail;refine(i.o _ (l.below aD) (m.below aD)).mono ?_;rintro y r ⟨rfl,e⟩;exact wd
theorem Ni (a:aR) (d:a.Ok):fv [115,101,116] a (cd a.a.toNat):=by
 refine m2 ?_;intro o;intro A n u x b i;rw[o.o];obtain⟨p,y,r,e,l,j⟩:=b.m;obtain⟨q,z,s,v,m,k⟩:=b.n;have w:=b.c4;have f:U (∀c,aC 141 #[M a.a] c (aE (ai (cd a.a.toNat)))):= λ c=>by
  have e:=mf a.a.toNat c (by have:=d.a1;omega);rw[show ((a.a.toNat:J):F)=a.a by have:=d.a0;omega] at e;exact e
 clear b i l j m k d;go_enter func138,ntmps138;go_wp2_with fail;refine(f.o _).mono ?_;rintro t B ⟨rfl,g⟩;go_wp2;go_ret;exact⟨I,g⟩
theorem MT (a:aR) (d:a.Ok):fv [107,105,110,100,115] a (i5 a.s a.xs):=by
 have g:U (ai [107,105,110,100,115]=aN #[107,105,110,100,115]):=ab I;intro e f z k b j;rw[g.o];obtain⟨q,w,s,u,n,l⟩:=b.m;obtain⟨r,x,t,v,o,m⟩:=b.n;have i:=ab (J0 e e f (a.ds z) k bA b d.m);clear b j n l o m d;exact vP
theorem KW (a:aR):fv [98,101,108,105,101,102] a (cM (fo a.s a.xs a.a)):=by
 have o:U (ai [98,101,108,105,101,102]=aN #[98,101,108,105,101,102]):=ab I;intro t u v i b l;rw[o.o];obtain⟨d,f,k,x,g,m⟩:=b.m;obtain⟨p,q,s,y,j,n⟩:=b.n;have w: t.cell? (ad u 0)=Z (M a.s):=b.c0;have D: t.cell? (ad u 4)=Z (M a.a):=b.c4;have E:=b.lt;have B:an t d f a.xs:=g.view;obtain⟨e,z⟩:∃e,fo a.s a.xs a.a=e:=⟨_,I⟩;rw[z];have A:U (∀c,an c d f a.xs->aC 234 #[am a.s d f k,M a.a] c (bz e.num e.den e.ok)):= λ c C=>by rw[<- z];exact HO a.s a.a _ _ _ a.xs c C
 refine lZ ?_;intro r;clear b l g m j n z;go_enter func138,ntmps138;go_wp2_with fail;refine cC ?_;repeat (first | go_big_quiet_step ((first | (go_at_call 234;(with_reducible exact aQ (A.o _ (B.below (aM _ _))))) | (go_at_call 57;(with_reducible exact aQ (r.o _ (i.below (aM _ _))))))) | quiet_step ((first | (go_at_call 234;(with_reducible exact aQ (A.o _ (B.below (aM _ _))))) | (go_at_call 57;(with_reducible exact aQ (r.o _ (i.below (aM _ _))))))))
 exact jQ
theorem Ij (a:aR) (G:a.Ok):fv [112,111,115,115,105,98,108,101] a (cM (fp a.s a.xs a.a)):=by
 have o:U (ai [112,111,115,115,105,98,108,101]=aN #[112,111,115,115,105,98,108,101]):=ab I;intro t u v i b l;rw[o.o];obtain⟨d,f,k,x,g,m⟩:=b.m;obtain⟨p,q,s,y,j,n⟩:=b.n;have w: t.cell? (ad u 0)=Z (M a.s):=b.c0;have D: t.cell? (ad u 4)=Z (M a.a):=b.c4;have E:=b.lt;have B:an t d f a.xs:=g.view;obtain⟨e,z⟩:∃e,fp a.s a.xs a.a=e:=⟨_,I⟩;rw[z];refine jS ?_;intro X T;have A:U (∀c,an c d f a.xs->aC 235 #[am a.s d f k,M a.a] c (bz e.num e.den e.ok)):= λ c C=>by rw[<- z];rw[T];exact Ff a.s X _ _ _ a.xs c C G.m
 refine lZ ?_;intro r;clear b l g m j n z G T;go_enter func138,ntmps138;go_wp2_with fail;refine cC ?_;repeat (first | go_big_quiet_step ((first | (go_at_call 235;(with_reducible exact aQ (A.o _ (B.below (aM _ _))))) | (go_at_call 57;(with_reducible exact aQ (r.o _ (i.below (aM _ _))))))) | quiet_step ((first | (go_at_call 235;(with_reducible exact aQ (A.o _ (B.below (aM _ _))))) | (go_at_call 57;(with_reducible exact aQ (r.o _ (i.below (aM _ _))))))))
 exact jQ
theorem KX (a:aR) (G:a.Ok):fv [99,104,97,110,99,101] a (cM (fq a.s a.xs a.a)):=by
 have o:U (ai [99,104,97,110,99,101]=aN #[99,104,97,110,99,101]):=ab I;intro t u v i b l;rw[o.o];obtain⟨d,f,k,x,g,m⟩:=b.m;obtain⟨p,q,s,y,j,n⟩:=b.n;have w: t.cell? (ad u 0)=Z (M a.s):=b.c0;have D: t.cell? (ad u 4)=Z (M a.a):=b.c4;have E:=b.lt;have B:an t d f a.xs:=g.view;obtain⟨e,z⟩:∃e,fq a.s a.xs a.a=e:=⟨_,I⟩;rw[z];refine jS ?_;intro X T;have A:U (∀c,an c d f a.xs->aC 236 #[am a.s d f k,M a.a] c (bz e.num e.den e.ok)):= λ c C=>by rw[<- z];rw[T];exact HV a.s X _ _ _ a.xs c C G.m
 refine lZ ?_;intro r;clear b l g m j n z G T;go_enter func138,ntmps138;go_wp2_with fail;refine cC ?_;repeat (first | go_big_quiet_step ((first | (go_at_call 236;(with_reducible exact aQ (A.o _ (B.below (aM _ _))))) | (go_at_call 57;(with_reducible exact aQ (r.o _ (i.below (aM _ _))))))) | quiet_step ((first | (go_at_call 236;(with_reducible exact aQ (A.o _ (B.below (aM _ _))))) | (go_at_call 57;(with_reducible exact aQ (r.o _ (i.below (aM _ _))))))))
 exact jQ
theorem NV (a:aR) (G:a.Ok):fv [115,105,122,101] a (cM (bv (er a.xs a.xs.length) (aW a.xs))):=by
 have o:U (ai [115,105,122,101]=aN #[115,105,122,101]):=ab I;refine hE ?_;intro t u v d f k p q s i b l x g m y j n w;have E:=g.view;obtain⟨e,z⟩:∃e,bv (er a.xs a.xs.length) (aW a.xs)=e:=⟨_,I⟩;rw[z];have B:U (∀c,an c d f a.xs->aC 237 #[am a.s d f k] c (bz e.num e.den e.ok)):= λ c F=>by rw[<- z];exact II a.s _ _ _ a.xs c F G.m
 refine lZ ?_;intro r;clear b l g m j n z G;go_enter func138,ntmps138;go_wp2_with fail;refine(B.o _ E).mono ?_;rintro C H ⟨rfl,A⟩;go_wp2_with fail;refine(r.o _ (i.below A)).mono ?_;rintro C J ⟨rfl,D⟩;go_wp2;go_ret;exact⟨I,au A D⟩
theorem Jj (a:aR) (c:a.Ok):fv [99,111,110,116,111,117,114] a (b2 (fS a.s a.xs)):=by
 have o:U (ai [99,111,110,116,111,117,114]=aN #[99,111,110,116,111,117,114]):=ab I;refine hE ?_;intro t u v d f k p q s i b l x g m y j n w;have E:=g.view;have z:=ab (rA (ri c.m));have A:=ab (q5 c.m);have B:=ab c.m;clear b l g m j n c;go_enter func138,ntmps138;go_wp2_with fail;refine(HM a.s _ _ _ a.xs _ E B.o).mono ?_;rintro C L ⟨⟨K,rfl,F⟩,e⟩;obtain⟨G,J,H,rfl,r⟩:=F.ints;go_wp2_with fail;refine(nc _ _ _ _ _ r z.o (by have:=r.len;have:=A.o;omega) (i.below e).pow).mono ?_;rintro C M ⟨rfl,D⟩;go_wp2;go_ret;exact⟨I,au e D⟩
theorem Ik (a:aR):fv [99,111,110,102,108,105,99,116] a (cM (gR a.s a.xs a.t a.ys)):=by
 have o:U (ai [99,111,110,102,108,105,99,116]=aN #[99,111,110,102,108,105,99,116]):=ab I;intro t u v i b l;rw[o.o];obtain⟨d,f,k,x,g,m⟩:=b.m;obtain⟨p,q,s,y,j,n⟩:=b.n;have w: t.cell? (ad u 0)=Z (M a.s):=b.c0;have F: t.cell? (ad u 2)=Z (M a.t):=b.c2;have H:=b.lt;have B:an t d f a.xs:=g.view;have C:an t p q a.ys:=j.view;obtain⟨e,z⟩:∃e,gR a.s a.xs a.t a.ys=e:=⟨_,I⟩;rw[z];have A:U (∀c,an c d f a.xs->an c p q a.ys->aC 239 #[am a.s d f k,am a.t p q s] c (bz e.num e.den e.ok)):= λ c D E=>by rw[<- z];exact FB a.s a.t _ _ _ _ _ _ a.xs a.ys c D E
 refine lZ ?_;intro r;clear b l g m j n z;go_enter func138,ntmps138;go_wp2_with fail;refine cC ?_;repeat (first | go_big_quiet_step ((first | (go_at_call 239;(with_reducible exact aQ (A.o _ (B.below (aM _ _)) (C.below (aM _ _))))) | (go_at_call 57;(with_reducible exact aQ (r.o _ (i.below (aM _ _))))))) | quiet_step ((first | (go_at_call 239;(with_reducible exact aQ (A.o _ (B.below (aM _ _)) (C.below (aM _ _))))) | (go_at_call 57;(with_reducible exact aQ (r.o _ (i.below (aM _ _))))))))
 exact jQ
theorem Il (a:aR):fv [100,105,115,116,97,110,99,101] a (cM (hu a.s a.xs a.t a.ys)):=by
 have o:U (ai [100,105,115,116,97,110,99,101]=aN #[100,105,115,116,97,110,99,101]):=ab I;intro t u v i b l;rw[o.o];obtain⟨d,f,k,x,g,m⟩:=b.m;obtain⟨p,q,s,y,j,n⟩:=b.n;have w: t.cell? (ad u 0)=Z (M a.s):=b.c0;have F: t.cell? (ad u 2)=Z (M a.t):=b.c2;have H:=b.lt;have B:an t d f a.xs:=g.view;have C:an t p q a.ys:=j.view;obtain⟨e,z⟩:∃e,hu a.s a.xs a.t a.ys=e:=⟨_,I⟩;rw[z];have A:U (∀c,an c d f a.xs->an c p q a.ys->aC 240 #[am a.s d f k,am a.t p q s] c (bz e.num e.den e.ok)):= λ c D E=>by rw[<- z];exact FC a.s a.t _ _ _ _ _ _ a.xs a.ys c D E
 refine lZ ?_;intro r;clear b l g m j n z;go_enter func138,ntmps138;go_wp2_with fail;refine cC ?_;repeat (first | go_big_quiet_step ((first | (go_at_call 240;(with_reducible exact aQ (A.o _ (B.below (aM _ _)) (C.below (aM _ _))))) | (go_at_call 57;(with_reducible exact aQ (r.o _ (i.below (aM _ _))))))) | quiet_step ((first | (go_at_call 240;(with_reducible exact aQ (A.o _ (B.below (aM _ _)) (C.below (aM _ _))))) | (go_at_call 57;(with_reducible exact aQ (r.o _ (i.below (aM _ _))))))))
 exact jQ
theorem Gi (z:ep) (a:aR):fv [115,112,101,99,105,97,108,105,122,101,100] a (iE (z.sp a)):=by
 have o:U (ai [115,112,101,99,105,97,108,105,122,101,100]=aN #[115,112,101,99,105,97,108,105,122,101,100]):=ab I;intro t u v i b l;rw[o.o];obtain⟨d,f,k,x,g,m⟩:=b.m;obtain⟨p,q,s,y,j,n⟩:=b.n;have w: t.cell? (ad u 0)=Z (M a.s):=b.c0;have G: t.cell? (ad u 2)=Z (M a.t):=b.c2;have H:=b.lt;have C:an t d f a.xs:=g.view;have D:an t p q a.ys:=j.view;obtain⟨e,A⟩:∃e,z.sp a=e:=⟨_,I⟩;rw[A];have B:U (∀c,an c d f a.xs->an c p q a.ys->aC 242 #[am a.s d f k,am a.t p q s] c (aw e)):= λ c E F=>by rw[<- A];exact E8 a.s a.t _ _ _ _ _ _ a.xs a.ys (z.sp a) c E F (by rw[<- E.len];exact z.hsp a)
 refine yB ?_;intro r;clear b l g m j n A;go_enter func138,ntmps138;go_wp2_with fail;refine cC ?_;repeat (first | go_big_quiet_step ((first | (go_at_call 242;(with_reducible exact aQ (B.o _ (C.below (aM _ _)) (D.below (aM _ _))))) | (go_at_call 241;(with_reducible exact aQ (r.o _))))) | quiet_step ((first | (go_at_call 242;(with_reducible exact aQ (B.o _ (C.below (aM _ _)) (D.below (aM _ _))))) | (go_at_call 241;(with_reducible exact aQ (r.o _))))))
 exact jQ
theorem NW (a:aR):fv [108,101,115,115] a (iE (iG a.s a.xs a.t a.ys)):=by
 have o:U (ai [108,101,115,115]=aN #[108,101,115,115]):=ab I;intro t u v i b l;rw[o.o];obtain⟨d,f,k,x,g,m⟩:=b.m;obtain⟨p,q,s,y,j,n⟩:=b.n;have w: t.cell? (ad u 0)=Z (M a.s):=b.c0;have F: t.cell? (ad u 2)=Z (M a.t):=b.c2;have G:=b.lt;have B:an t d f a.xs:=g.view;have C:an t p q a.ys:=j.view;obtain⟨e,z⟩:∃e,iG a.s a.xs a.t a.ys=e:=⟨_,I⟩;rw[z];have A:U (∀c,an c d f a.xs->an c p q a.ys->aC 243 #[am a.s d f k,am a.t p q s] c (aw e)):= λ c D E=>by rw[<- z];exact Fa a.s a.t _ _ _ _ _ _ a.xs a.ys c D E
 refine yB ?_;intro r;clear b l g m j n z;go_enter func138,ntmps138;go_wp2_with fail;refine cC ?_;repeat (first | go_big_quiet_step ((first | (go_at_call 243;(with_reducible exact aQ (A.o _ (B.below (aM _ _)) (C.below (aM _ _))))) | (go_at_call 241;(with_reducible exact aQ (r.o _))))) | quiet_step ((first | (go_at_call 243;(with_reducible exact aQ (A.o _ (B.below (aM _ _)) (C.below (aM _ _))))) | (go_at_call 241;(with_reducible exact aQ (r.o _))))))
 exact jQ
theorem Jk (a:aR):fv [99,111,114,110,101,114,115] a (hv a.s a.xs):=by
 have j:U (ai [99,111,114,110,101,114,115]=aN #[99,111,114,110,101,114,115]):=ab I;intro b e g z d k;rw[j.o];obtain⟨q,w,s,u,n,l⟩:=d.m;obtain⟨r,x,t,v,o,m⟩:=d.n;have i:U (aC 244 #[br e] b (aE (ai (hv a.s a.xs)))):=by
  show aC 244 #[br e] b (aE (ai (hv a.s a.xs)));cases f:ci a.s a.xs
  ·have c:hv a.s a.xs=[45]:=by unfold hv co;rw[f];rfl
   rw[c];exact Fy b b e (a.ds g) z bA d f
  ·have c:hv a.s a.xs=pi a.s a.xs:=by unfold hv;rw[aF (λ c=>by have:=Ao f;rw[c] at this;simp at this)]
   rw[c];exact FY b b e (a.ds g) z bA d f
 clear d k n l o m;exact vP
theorem KY (a:aR) (H:a.Ok):fv [115,97,102,101,115,116] a (hw (fc (ce a.s a.xs a.gg) (λ ZJ=>bS 1000 a.xs (aO a.gg ZJ) a.xs.length) a.gg.length)):=by
 have o:U (ai [115,97,102,101,115,116]=aN #[115,97,102,101,115,116]):=ab I;intro t u v i b l;rw[o.o];obtain⟨d,f,k,x,g,m⟩:=b.m;obtain⟨p,q,s,y,j,n⟩:=b.n;have w: t.cell? (ad u 0)=Z (M a.s):=b.c0;have O:=b.lt;have D:an t d f a.xs:=g.view;obtain⟨ZJ,G⟩:∃ZJ,fc (ce a.s a.xs a.gg) (λ ZJ=>bS 1000 a.xs (aO a.gg ZJ) a.xs.length) a.gg.length=ZJ:=⟨_,I⟩;refine m3 ?_;intro J;obtain⟨B,P,E,rfl,F,C⟩:=l;subst F;have N: t.cell? (ad u 5)=Z (aa B a.gg.length E):=b.c5;have A:U (∀c,an c d f a.xs->dj c B a.gg.length a.gg->aC 246 #[am a.s d f k,aa B a.gg.length E] c (M ZJ)):= λ c z K=>by rw[<- G];exact F6 a.s _ _ _ _ _ _ a.xs a.gg c z K
 refine sM ?_;intro r;clear b g m j n G H J;go_enter func138,ntmps138;go_wp2_with fail;refine cC ?_;repeat (first | go_big_quiet_step ((first | (go_at_call 246;(with_reducible exact aQ (A.o _ (D.below (aM _ _)) (C.below (aM _ _))))) | (go_at_call 245;(with_reducible exact aQ (r.o _ (i.below (aM _ _))))))) | quiet_step ((first | (go_at_call 246;(with_reducible exact aQ (A.o _ (D.below (aM _ _)) (C.below (aM _ _))))) | (go_at_call 245;(with_reducible exact aQ (r.o _ (i.below (aM _ _))))))))
 exact jQ
theorem Jl (a:aR) (H:a.Ok):fv [98,111,108,100,101,115,116] a (hw (fc (ce a.s a.xs a.gg) (λ ZJ=> -(bS 1000 a.xs (ca (aO a.gg ZJ) (aO a.gg ZJ).length) a.xs.length)) a.gg.length)):=by
 have o:U (ai [98,111,108,100,101,115,116]=aN #[98,111,108,100,101,115,116]):=ab I;intro t u v i b l;rw[o.o];obtain⟨d,f,k,x,g,m⟩:=b.m;obtain⟨p,q,s,y,j,n⟩:=b.n;have w: t.cell? (ad u 0)=Z (M a.s):=b.c0;have O:=b.lt;have D:an t d f a.xs:=g.view;refine yR ?_;intro ZJ G;refine m3 ?_;intro J;obtain⟨B,P,E,rfl,F,C⟩:=l;subst F;have N: t.cell? (ad u 5)=Z (aa B a.gg.length E):=b.c5;have A:U (∀c,an c d f a.xs->dj c B a.gg.length a.gg->aC 247 #[am a.s d f k,aa B a.gg.length E] c (M ZJ)):= λ c z K=>by rw[<- G];exact FR a.s _ _ _ _ _ _ a.xs a.gg c z K
 refine sM ?_;intro r;clear b g m j n G H J;go_enter func138,ntmps138;go_wp2_with fail;refine cC ?_;repeat (first | go_big_quiet_step ((first | (go_at_call 247;(with_reducible exact aQ (A.o _ (D.below (aM _ _)) (C.below (aM _ _))))) | (go_at_call 245;(with_reducible exact aQ (r.o _ (i.below (aM _ _))))))) | quiet_step ((first | (go_at_call 247;(with_reducible exact aQ (A.o _ (D.below (aM _ _)) (C.below (aM _ _))))) | (go_at_call 245;(with_reducible exact aQ (r.o _ (i.below (aM _ _))))))))
 exact jQ
theorem NX (a:aR) (H:a.Ok):fv [101,118,101,110] a (hw (fc (ce a.s a.xs a.gg) (λ ZJ=>eU a.xs (aO a.gg ZJ) (aO a.gg ZJ).length) a.gg.length)):=by
 have o:U (ai [101,118,101,110]=aN #[101,118,101,110]):=ab I;intro t u v i b l;rw[o.o];obtain⟨d,f,k,x,g,m⟩:=b.m;obtain⟨p,q,s,y,j,n⟩:=b.n;have w: t.cell? (ad u 0)=Z (M a.s):=b.c0;have O:=b.lt;have D:an t d f a.xs:=g.view;obtain⟨ZJ,G⟩:∃ZJ,fc (ce a.s a.xs a.gg) (λ ZJ=>eU a.xs (aO a.gg ZJ) (aO a.gg ZJ).length) a.gg.length=ZJ:=⟨_,I⟩;refine m3 ?_;intro J;obtain⟨B,P,E,rfl,F,C⟩:=l;subst F;have N: t.cell? (ad u 5)=Z (aa B a.gg.length E):=b.c5;have A:U (∀c,an c d f a.xs->dj c B a.gg.length a.gg->aC 248 #[am a.s d f k,aa B a.gg.length E] c (M ZJ)):= λ c z K=>by rw[<- G];exact GM a.s _ _ _ _ _ _ a.xs a.gg c z K
 refine sM ?_;intro r;clear b g m j n G H J;go_enter func138,ntmps138;go_wp2_with fail;refine cC ?_;repeat (first | go_big_quiet_step ((first | (go_at_call 248;(with_reducible exact aQ (A.o _ (D.below (aM _ _)) (C.below (aM _ _))))) | (go_at_call 245;(with_reducible exact aQ (r.o _ (i.below (aM _ _))))))) | quiet_step ((first | (go_at_call 248;(with_reducible exact aQ (A.o _ (D.below (aM _ _)) (C.below (aM _ _))))) | (go_at_call 245;(with_reducible exact aQ (r.o _ (i.below (aM _ _))))))))
 exact jQ
theorem Im (a:aR) (C:a.Ok):fv [117,110,98,101,97,116,101,110] a (b2 (fJ a.s a.xs a.gg)):=by
 have o:U (ai [117,110,98,101,97,116,101,110]=aN #[117,110,98,101,97,116,101,110]):=ab I;refine hE ?_;intro t u v d f k p q s i b l x g m y j n w;have M:=g.view;have c:=o6 (s:=a.s) (xs:=a.xs) C.gl;have A:U (∀(d r:aG) (f k z:J) e,an e d f a.xs->dj e r a.gg.length a.gg->db 249 #[am a.s d f k,aa r a.gg.length z] e (fJ a.s a.xs a.gg)):= λ d r f k z e Q R=>E3 a.s _ _ _ _ _ _ a.xs a.gg e Q R
 obtain⟨B,D⟩:∃B,fJ a.s a.xs a.gg=B:=⟨_,I⟩;rw[D] at c A ⊢;have F:=ab c.1;have W:=c.2;obtain⟨r,Y,z,rfl,N,H⟩:=l;subst N;have V:=b.c5;clear b g m j n D C c;go_enter func138,ntmps138;go_wp2_with fail;go_region_with (first | (go_at_call 249;refine(A.o _ _ _ _ _ _ (M.below aD) (H.below aD)).mono ?_;rintro G P ⟨⟨Z8,rfl,O⟩,K⟩;obtain⟨S,X,T,rfl,E⟩:=O.ints;have c:ap t P:=Below.trans aD (K.mono aZ)) | (go_at_call 53;refine(nc _ _ _ _ _ E F.o (by have:=E.len;omega) (i.below c).pow).mono ?_;rintro G Z9 ⟨rfl,L⟩));all_goals
  go_wp2;go_ret;exact⟨I,au c L⟩
theorem NY (a:aR) (C:a.Ok):fv [98,101,115,116] a (b2 (gP a.s a.xs a.gg)):=by
 have o:U (ai [98,101,115,116]=aN #[98,101,115,116]):=ab I;refine hE ?_;intro t u v d f k p q s i b l x g m y j n w;have M:=g.view;have c:=oY (s:=a.s) (xs:=a.xs) C.gl;have A:U (∀(d r:aG) (f k z:J) e,an e d f a.xs->dj e r a.gg.length a.gg->db 250 #[am a.s d f k,aa r a.gg.length z] e (gP a.s a.xs a.gg)):= λ d r f k z e Q R=>E6 a.s _ _ _ _ _ _ a.xs a.gg e Q R
 obtain⟨B,D⟩:∃B,gP a.s a.xs a.gg=B:=⟨_,I⟩;rw[D] at c A ⊢;have F:=ab c.1;have W:=c.2;obtain⟨r,Y,z,rfl,N,H⟩:=l;subst N;have V:=b.c5;clear b g m j n D C c;go_enter func138,ntmps138;go_wp2_with fail;go_region_with (first | (go_at_call 250;refine(A.o _ _ _ _ _ _ (M.below aD) (H.below aD)).mono ?_;rintro G P ⟨⟨Z8,rfl,O⟩,K⟩;obtain⟨S,X,T,rfl,E⟩:=O.ints;have c:ap t P:=Below.trans aD (K.mono aZ)) | (go_at_call 53;refine(nc _ _ _ _ _ E F.o (by have:=E.len;omega) (i.below c).pow).mono ?_;rintro G Z9 ⟨rfl,L⟩));all_goals
  go_wp2;go_ret;exact⟨I,au c L⟩
end Go.Proofs.YtkjnhlpccgjfhaaGreatDoor
