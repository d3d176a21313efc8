/- A part of the proof: lemmas (my texts, shortened by a program of mine). -/
import Derived.Test.YtkjnhlpccgjfhaaGreatDoorRows
import Derived.WalkKit
import Derived.WalkSpells
import Derived.WalkLawsBesides
import Derived.Deep.QuietTactic
import Derived.BigQuiet
import Derived.Deep.RegionLaw
import Derived.Deep.RegionHeld3
import Derived.Deep.AppendLies
import Derived.StillTail
import Derived.Test.YtkjnhlpccgjfhaaGreatDoorC01
set_option linter.all false
set_option maxRecDepth 100000
set_option maxHeartbeats 4000000
namespace Go.Proofs.YtkjnhlpccgjfhaaGreatDoor
open Go.RowKit
open Go.Proofs.Tryz
open _root_.Array renaming replicate->mJ,setIfInBounds_comm->rJ
open Bool renaming and_eq_true->b9,false->ak,true->ae
open Classical renaming byContradiction->jJ
open Go renaming Calls->aY,Oper->bD,Value->ay,World->af,getD_set_ne->kc,ready_mono->ke
open Go.Ending renaming returned->aV
open Go.Obj renaming cells->al
open Go.Oper renaming upon->jC
open Go.Region renaming Mode->hY,binds->jD,free_spec->nX,noSelect->kb,noSelect_spec->n2,ready->ef,wanted->jI
open Go.Value renaming bool->aw,int->ed,slice->aa
open Go.World renaming block_lt_of_cell?->fX,cell?_alloc_lt->fr
open Go.World.ownsRow renaming cells->iN,lt->fs
open Int renaming gcd->ee
open List renaming length_cons->jG,range->cN
open Nat renaming le_refl->bL,le_trans->ez,lt_of_lt_of_le->cm,lt_or_ge->hX
open Ne renaming symm->eA
open Option renaming map_some->mI,none->aj,some->Z
open Option.some renaming inj->iO
open Or renaming inl->bj,inr->aP
open _root_ renaming Array->bg,Bool->a8,Int->F,List->aU,Nat->J,absurd->bC,decide_eq_true_eq->hB,if_neg->aF,if_pos->a7,rfl->I
variable {p q:Prop}
theorem ab {a:Prop} (b:a):U a:=b
theorem gZ {c:IntKind} {a b:F} (d:a=b):aV (.int c a)=aV (.int c b):=by rw[d]
theorem ct {a b:a8} (c:a=b):aV (aw a)=aV (aw b):=by rw[c]
def O (b:ac) (a:J):F:=b.getD a 0
theorem cK (b:ac) (a:J) (c:a<b.length):O b a=b[a]:=by simp[O,c]
theorem ms (a:ac) (c:J) (b:c<a.length):O a c∈a:=by rw[cK _ _ b];exact List.getElem_mem b
theorem nG (b:ac) (a:J) (c:b.length<=a):O b a=0:=by simp[O,c]
theorem cO (b:ac) (d a:J) (e:F):O (b.set d e) a=if d=a /\ a<b.length then e else O b a:=by
 by_cases c:a<b.length
 ·rw[cK _ _ (by simpa using c),cK _ _ c,List.getElem_set];by_cases f:d=a<;>simp[f,c]
 ·rw[nG _ _ (by simp;omega),nG _ _ E,aF E]
theorem nb (b d:ac) (a:J) (c:a<b.length):O (b++d) a=O b a:=by
 rw[cK _ _ (by simp;omega),cK _ _ c,List.getElem_append_left c]
theorem uP (c:F->F) (b:ac) (a:J) (d:a<b.length):O (b.map c) a=c (O b a):=by
 rw[cK _ _ (by simpa using d),cK _ _ d,List.getElem_map]
theorem kI (b c:ac) (g:b.length=c.length) (e:∀a,a<b.length->O b a=O c a):b=c:=by
 apply List.ext_getElem g;intro a d f;have:=e a d;rwa [cK _ _ d,cK _ _ f] at this
def bx {σ:Type} (step:J->σ->σ) (a:σ):J->σ
 | 0=>a
 | b+1=>step b (bx step a b)
theorem A8 {σ:Type} {c d:J->σ->σ} {b:σ} (e:J) (f:∀a g,a<e->c a g=d a g):∀a,a<=e->bx c b a=bx d b a
 | 0,_=>rfl
 | a+1,h=>by show c a (bx c b a)=d a (bx d b a);rw[A8 e f a E,f _ _ E]
def bq (a:J->a8):J->a8
 | 0=>ae
 | b+1=>bq a b&&a b
theorem cp (d:J->a8) (b:J):bq d b=ae↔∀a,a<b->d a=ae:=by
 induction b with
 | zero=>simp[bq]
 | succ b i =>
  simp only[bq,b9,i]
  constructor
  ·intro ⟨f,g⟩ a h;by_cases e:a=b
   ·subst e;exact g
   ·exact f a E
  ·intro c;exact⟨λ a h=>c a E,c b E⟩
theorem jn {p:J->a8} {a k:J} (d:k<a) (b:p k=ak):bq p a=ak:=by
 cases c:bq p a
 ·rfl
 ·rw[(cp p a).1 c k d] at b;cases b
theorem ii {b:J->a8} {c:J} (d:bq b c=ak):∃a,a<c /\ b a=ak:=by
 refine jJ λ e=>?_
 rw[(cp b c).2 λ a f=>by cases g:b a;exact bC ⟨a,f,g⟩ e;rfl] at d;cases d
def aW (a:ac):F:=bx (λ b c=>c+O a b) 0 a.length
def cH (c:ac) (a:J):F:=bx (λ a b=>b+O c a) 0 a
theorem jW (b:ac) (a:J):cH b (a+1)=cH b a+O b a:=rfl
theorem I4 (c:ac) (b:F) (h:0<=b) (d:J) (e:∀a,a<d->0<=O c a /\ O c a<=b) (a:J) (i:a<=d):0<=cH c a /\ cH c a<=b*a:=by
 induction a with
 | zero=>simp[cH,bx]
 | succ a f =>
  have g:b*((a+1:J):F)=b*a+b:=by rw[Int.natCast_succ,Int.mul_add,Int.mul_one]
  have:=f E;have:=e a E
  rw[jW];omega
def es (c:ac) (a:J):F:=bx (λ a b=>(ee b (O c a):F)) 0 a
def bT (a:ac):F:=es a a.length
theorem ll (b:ac) (a:J):es b (a+1)=(ee (es b a) (O b a):F):=rfl
theorem jm (b:ac) (a:J):0<=es b a:=by
 cases a with
 | zero=>simp[es,bx]
 | succ a=>rw[ll];omega
theorem Cy (a b:F):ee b (a.tmod b)=ee a b:=by
 unfold ee;rw[Int.natAbs_tmod,Nat.gcd_comm a.natAbs,Nat.gcd_rec b.natAbs a.natAbs,Nat.gcd_comm]
theorem I5 (b a:F) (c:0<=b) (d:0<=a):ee a (b%a)=ee b a:=by
 have:=Cy b a;rwa [Int.tmod_eq_emod_of_nonneg c] at this
theorem MF (b a:F) (c:a≠0):(b.tmod a).natAbs <a.natAbs:=by
 rw[Int.natAbs_tmod];exact Nat.mod_lt _ E
theorem MG (a b:F):ee (a.natAbs:F) b=ee a b:=by simp[ee]
theorem Dd (a c b:F) (e:0<=a) (f:a<=b) (g: -b<=c) (h:c<=b):(ee a c:F)<=b:=by
 by_cases d:a=0
 ·subst d;simp[ee];omega
 ·have:ee a c<=a.natAbs:=Nat.le_of_dvd E (Nat.gcd_dvd_left _ _);omega
theorem I0 (e:ac) (c:F) (f:0<=c) (a:J) (d:∀b,b<a-> -c<=O e b /\ O e b<=c):es e a<=c:=by
 induction a with
 | zero=>simpa [es,bx] using f
 | succ a g=>rw[ll];exact Dd _ _ _ (jm _ _) (g λ b h=>d b E) (d a E).1 (d a E).2
theorem lm (c:ac) (b:J):∀a,a<b->es c b∣O c a:=by
 induction b with
 | zero=>intro a e;omega
 | succ b f =>
  intro a e
  rw[ll]
  by_cases d:a=b
  ·subst d;exact Int.gcd_dvd_right _ _
  ·exact Int.dvd_trans (Int.gcd_dvd_left _ _) (f a E)
def bK (a:F):a8:=decide (1<=a)&&decide (a<=4)
theorem cG {a:F}:bK a=ae↔a=1 \/ a=2 \/ a=3 \/ a=4:=by
 unfold bK;simp only[b9,hB];omega
def aH (a:F):J:=2^a.toNat
theorem HF {a:F} (b:bK a=ae):(a=1 /\ aH a=2) \/ (a=2 /\ aH a=4) \/ (a=3 /\ aH a=8) \/ (a=4 /\ aH a=16):=by
 rcases cG.1 b with rfl | rfl | rfl | rfl<;>simp[aH]
theorem b8 {b:F} (a:bK b=ae):2<=aH b /\ aH b<=16:=by
 rcases HF a with a | a | a | a<;>omega
theorem ho {a:F} (b:bK a=ae):wrap64 (2^a.toNat)=(aH a:F):=by
 rw[IntWalk.wrap64_in]
 ·simp[aH]
 ·rcases cG.1 b with rfl | rfl | rfl | rfl<;>decide
def bi (c b a:F):a8:=decide (c<=a)&&decide (a<=b)
theorem bM {c b a:F}:bi c b a=ae↔c<=a /\ a<=b:=by simp[bi]
theorem j0 {c b a:F}:bi c b a=ak↔a<c \/ b<a:=by simp[bi];omega
def jv (c:F) (a:ac):F:=if bq (λ b=>bi 0 c (O a b)) a.length then aW a else -1
def b4 (a b:F):a8:=bK a&&bi 0 ((aH a:F)-1) b
def aI (b:F) (a:ac):a8 :=
 bK b&&(a.length==aH b)&&bq (λ c=>bi 0 1000000 (O a c)) a.length&&bi 1 1000000 (aW a)&&(bT a==1)
structure bc where
 size:F
 parts:ac
 ok:a8
def bc.no:bc:=⟨0,[],ak⟩
def bh (b:F) (a:ac):bc :=
 if bT a=0 then bc.no else if aI b (a.map (· /bT a)) then ⟨b,a.map (· /bT a),ae⟩ else bc.no
def bH (b a:F):a8:=bi (-1000000000) 1000000000 b&&bi 1 1000000000 a&&(ee b a==1)
def gY (b a:F):a8:=bH b a&&bi 0 a b
theorem qB {b:J} {c d:af} {e:J} (a:Below b c d):Below b c (d.drewN e):=⟨a.os,a.tape,a.output,a.size,a.block⟩
theorem az (a:af) (b:Obj):Below a.heap.size a (a.alloc b):=bA.alloc aZ b
theorem bB {a:J} {b c:af} (d:Below a b c:=by(repeat (first | exact Below.refl _ _ | assumption | refine Below.alloc ?_ bO _ | refine Below.setCell ?_ bO _ | refine Below.drew ?_ | refine qB ?_))):Below a b c:=d
theorem aD {a:J} {b c:af} (d:Below a b c:=by(repeat (first | exact Below.refl _ _ | assumption | refine Below.alloc ?_ (by first | omega | (simp<;>omega)) _ | refine Below.setCell ?_ (by first | omega | (simp<;>omega)) _ | refine Below.drew ?_ | refine qB ?_))):Below a b c:=d
theorem dz {n k : J} {a b c : af} (h : Below k b c) (h1 : Below n a b := by exact bB) (h2 : n ≤ k := by simp <;> omega) : Below n a c := h1.trans (h.mono h2)
theorem bJ {n k : J} {a b c : af} (h : Below k b c) (h1 : Below n a b := by exact aD) (h2 : n ≤ k := by simp <;> omega) : Below n a c := h1.trans (h.mono h2)
structure jN where
 bl:bg Obj
 dr:J
instance:Inhabited jN:=⟨⟨#[],0⟩⟩
def cx (a:af) (b:jN):af:={a with heap:=a.heap++b.bl,drawn:=b.dr}
theorem aM (a:af) (c:jN):Below a.heap.size a (cx a c) :=
 ⟨I,I,I,by simp[cx],λ d b=>by simp only[cx];rw[Array.getElem?_append_left b]⟩
theorem qC {b a:af} (j:ap b a):∃l,a=cx b l:=by
 refine⟨⟨a.heap.extract b.heap.size a.heap.size,a.drawn⟩,?_⟩;obtain⟨f,g,h,k,i⟩:=j;cases a with
 | mk c q m o p =>
  simp only at f g h k i
  subst f;subst g;subst h
  have:c=b.heap++c.extract b.heap.size c.size:=by
   apply Array.ext_getElem?;intro e;rw[Array.getElem?_append];by_cases d:e<b.heap.size
   ·rw[a7 d,i e d]
   ·rw[aF d,Array.getElem?_extract];by_cases n:e<c.size
    ·rw[a7 E];congr 1;omega
    ·rw[aF E,Array.getElem?_eq_none E]
  simp only[cx]
  rw[<- this]
@[simp,go_sem] theorem Me (a:af) (d:jN) (b c:J) (e:b<a.heap.size):(cx a d).cell? ⟨b,c,aj⟩= a.cell? ⟨b,c,aj⟩:=(aM a d).cell (p:=⟨b,c,aj⟩) e
@[simp,go_sem] theorem IJ (a:af) (d:jN) (b c:J) (e:b<a.heap.size):(cx a d).frozen? ⟨b,c,aj⟩= a.frozen? ⟨b,c,aj⟩:=(aM a d).frozen (p:=⟨b,c,aj⟩) e
@[simp,go_sem] theorem O5 (a:af) (d:jN) (b c:J) (e:(a.cell? ⟨b,c,aj⟩).isSome=ae):(cx a d).cell? ⟨b,c,aj⟩= a.cell? ⟨b,c,aj⟩:=by
 obtain⟨g,f⟩:=Option.isSome_iff_exists.1 e;exact Me a d b c (fX a ⟨b,c,aj⟩ f)
@[simp,go_sem] theorem O4 (a:af) (d:jN) (b c:J) (e:(a.cell? ⟨b,c,aj⟩).isSome=ae):(cx a d).frozen? ⟨b,c,aj⟩= a.frozen? ⟨b,c,aj⟩:=by
 obtain⟨g,f⟩:=Option.isSome_iff_exists.1 e;exact IJ a d b c (fX a ⟨b,c,aj⟩ f)
@[simp,go_sem] theorem O3 (a:af) (d:Obj) (b c:J) (e:(a.cell? ⟨b,c,aj⟩).isSome=ae):(a.alloc d).cell? ⟨b,c,aj⟩= a.cell? ⟨b,c,aj⟩:=by
 obtain⟨g,f⟩:=Option.isSome_iff_exists.1 e;exact fr a d ⟨b,c,aj⟩ (fX a ⟨b,c,aj⟩ f)
@[simp,go_sem] theorem O2 (a:af) (d:Obj) (b c:J) (e:(a.cell? ⟨b,c,aj⟩).isSome=ae):(a.alloc d).frozen? ⟨b,c,aj⟩= a.frozen? ⟨b,c,aj⟩:=by
 obtain⟨g,f⟩:=Option.isSome_iff_exists.1 e;exact(az a d).frozen (p:=⟨b,c,aj⟩) (fX a ⟨b,c,aj⟩ f)
@[simp,go_sem] theorem O6 (a:af) (b:jN):(cx a b).heap.size=a.heap.size+b.bl.size:=by simp[cx]
theorem dg {b:af} {d:af->Prop} (g:∀e,ap b e->d e):∀a,(∃c,a=cx b c)->d a:= λ a h=>by
 obtain⟨c,f⟩:=h;subst f;exact g _ (aM b c)
theorem aQ {d:Program} {f:FuncId} {e:bg ay} {a:af} {b:jN} {g:ay}
  (j:aY d f e (cx a b) λ c h=>c=aV g /\ Below (cx a b).heap.size (cx a b) h):aY d f e (cx a b) λ c i=>c=aV g /\ ∃m,i=cx a m :=
 j.mono λ _ _ ⟨l,k⟩=>⟨l,qC ((aM a b).trans (k.mono (aM a b).size))⟩
theorem ej {d:Program} {f:FuncId} {e:bg ay} {a:af} {b:jN} {g:ay}
  (j:aY d f e (cx a b) λ c h=>c=aV g /\ cx a b=h):aY d f e (cx a b) λ c i=>c=aV g /\ ∃m,i=cx a m :=
 j.mono λ _ _ ⟨l,k⟩=>⟨l,b,k.symm⟩
theorem bI (a:af):Below a.heap.size a {a with drawn:=a.drawn+1}:=⟨I,I,I,bL _,λ _ _=>rfl⟩
theorem gj {e:Program} {id:J} {f:Exit->Act->af->Prop} {g:Act} {b:af} {d:aU bD} (k:e.follows .mixedOrders=ae) (j:Region.lexB .any d.toArray=ae)
  (i:wpQuiet e d.toArray (λ a=>∃c,a=cx b c) (λ h=>∀a,(∃c,a=cx b c)->f .normal h a) d g):(Code.region id d.toArray ae).wp e f g b :=
 wp_region_quiet (C:= λ a=>∃c,a=cx b c) k j (qC (bI b)) (by simpa using i)
section
variable {P : Program} {ops : bg bD} {md : hY} {C : af → Prop}
def lE (P:Program) (md:hY) (ops:bg bD) (C:af->Prop) (d:J) (c:bg a8->Act->Prop):J->bg a8->Act->Prop
 | 0,done,b=>c done b
 | e+1,done,b=>ef md ops done≠[] /\ ∀a,a∈ef md ops done->a<d /\ qOp P ops C a (lE P md ops C d c e (done.setIfInBounds a ae)) b
theorem Au {s g:J} {e:bg a8->Act->Prop} {Q:Exit->Act->af->Prop} (l:∀done a b,C b->e done a->wpAny P md ops Q g done a b):
  ∀(c:J) (done:bg a8) (a:Act) (b:af),C b->lE P md ops C s e c done a->wpAny P md ops Q (c+g) done a b:=by
 intro c;induction c with
 | zero=>intro done a b d k;rw[Nat.zero_add];exact l done a b d k
 | succ c q =>
  intro done a b d ⟨p,m⟩
  rw[Nat.succ_add]
  exact⟨λ n=>(p n).elim,λ r o=>wpOp_of_qOp d (λ f j i h=>q _ f j i h) (m r o).2⟩
def lB (md:hY) (ops:bg bD) (c:J):a8 :=
 (cN ops.size).all λ a=>decide (a<=c)||(cN a).any λ b=>decide (c<=b)&&Region.waitsFor md ops a b
theorem AO {a:J} {done:bg a8} (B:Region.sinkB md ops a=ae) (y:lB md ops a=ae) (M:a<ops.size) (q:HeadInv md ops a done):
  ∀(j g:J),a-g=j->g<a->done.getD g ae=ak->∀b,a<=b->b∉ef md ops done:=by
 intro j;induction j using Nat.strongRecOn with
 | _ j v =>
  intro g D A P b C l
  obtain⟨_,t,i,s⟩:=mem_ready.1 l
  have z:b<ops.size:=(Array.getElem?_eq_some_iff.1 i).1
  rcases Nat.eq_or_lt_of_le C with d | F
  ·subst d;obtain⟨e,o,f⟩:=List.any_eq_true.1 (List.all_eq_true.1 B g (List.mem_range.2 A));exact vC
  ·exact w6
theorem HG {g b:J} {Z9:bD} {F:ay} {t:bg a8->Act->Prop} (l:ops[b]? =Z Z9) (x:kb ops=ae)
  (E:Region.sinkB md ops g=ae) (z:lB md ops g=ae) (B:g<ops.size) (A:b<g) (M:∀done k,t done k->∀a,a∈ef md ops done->g<=a):
  ∀(n:J) (done:bg a8) (k:Act),HeadInv md ops g done ->
   (∀a e,ops[a]? =Z e->a≠b->done.getD a ae=ak->(∀c,c∈e.after->jD md c=ae->c.on≠b)->Z9.apart ops e=ae) ->
   b∈ef md ops done->YieldsIn P ops C Z9 F k->lE P md ops C g t n (done.setIfInBounds b ae) (k.put Z9.dst F)->lE P md ops C g t (n+1) done k:=by
 intro n;induction n with
 | zero =>
  intro done k r _ m j f
  refine⟨List.ne_nil_of_mem m,λ a d=>?_⟩
  have o:a<g:=Nat.lt_of_not_le λ w=>AO E z B r _ b I A (mem_ready.1 m).1 a w d
  refine⟨o,?_⟩
  by_cases c:a=b
  ·rw[c];exact j.qOp l f
  ·exact bC (M _ _ f a (ke d c)) (Nat.not_le.2 o)
 | succ n N =>
  intro done k r u m j f
  have s:=(mem_ready.1 m).1
  refine⟨List.ne_nil_of_mem m,λ a d=>?_⟩
  have o:a<g:=Nat.lt_of_not_le λ w=>AO E z B r _ b I A s a w d
  refine⟨o,?_⟩
  by_cases c:a=b
  ·rw[c];exact j.qOp l f
  ·obtain⟨v,e,q,G⟩:=mem_ready.1 d;have D:∀i,i∈e.after->jD md i=ae->i.on≠b:=by
    exact wB
   refine yr ?_;intro p;refine qOp_mono (λ H y=>N _ H (r.set d o) ?_ (ke m (eA c)) y.1 ?_) p
   ·exact v7
   ·rw[rJ _ _ c];exact y.2
end
theorem FJ {P:Program} {c:bD} {a:Act} {i:Operand} {h:J} (j:c.op=.extract i h):
  (∃g,∀b,(execOp a.eval c).run P b=.ok (.value g) b) \/ (∀b,¬∃l,(execOp a.eval c).run P b=.ok l b) /\ (∀b d e,¬c.wp P a b d e):=by
 unfold Oper.wp execOp;rw[j];simp only[Instr.extract];cases a.eval i with
 | tuple k =>
  cases f:k[h]? with
  | some g=>exact bj ⟨g,λ b=>by simp[f]⟩
  | none=>exact aP ⟨λ b=>by simp[f],λ b d e=>by simp[f,jC]⟩
 | _=>exact aP ⟨λ b=>ar,λ b d e=>by simp[jC]⟩
theorem Gp {f:Program} {d:bD} {b:Act} {j:af} {e:Operand} {c:J} (h:d.op=.extract e c):¬d.asks f b j:=by
 unfold Oper.asks execOp;rw[h];simp only[Instr.extract];rintro⟨g,-⟩;revert g;cases b.eval e with
 | tuple i =>
  simp only
  cases i[c]? with
  | some k=>intro a;change noRoomEvent∈#[] at a;simp at a
  | none=>intro a;change noRoomEvent∈#[] at a;simp at a
 | _=>intro a;change noRoomEvent∈#[] at a;simp at a
def Bm (a:bD):a8:=match a.op,a.dst with | .extract _ _,Z _=>ae | _,_=>ak
section
variable {P : Program} {ops : bg bD} {md : hY}
def lx (md:hY) (ops:bg bD):J->J->bg a8->a8
 | 0,_,done=>(ef md ops done).isEmpty
 | b+1,a,done=>(decide (ef md ops done=[a])||(((ops[a]?).map Bm).getD ak&&(ef md ops done).contains a&&Region.free md ops done a))&&lx md ops b (a+1) (done.setIfInBounds a ae)
theorem Av {Q:Exit->Act->af->Prop} (E:kb ops=ae) (y:∀(j:Tmp) g w b c,Q (.panic g) (b.put (Z j) w) c->Q (.panic g) b c):
  ∀(d:aU bD) (e:J) (done:bg a8) (b:Act) (c:af),(∀f,d[f]? =ops[e+f]?)->lx md ops d.length e done=ae->wpList P ops Q d b c->wpAny P md ops Q d.length done b c:=by
 intro d;induction d with
 | nil=>intro e done b c _ m a;exact⟨by simpa [lx] using m,a⟩
 | cons k d v =>
  intro e done b c C m a
  have i:ops[e]? =Z k:=by simpa using (C 0).symm
  have r:∀f,d[f]? =ops[e+1+f]? := λ f=>by have:=C (f+1);simpa [Nat.add_assoc,Nat.add_comm 1 f] using this
  simp only[jG,lx,b9,Bool.or_eq_true,hB] at m
  obtain⟨n,t⟩:=m
  rcases n with n | ⟨⟨o,M⟩,A⟩
  ·refine⟨λ l=>(by rw[n] at l;cases l),λ u B=>?_⟩;rw[n] at B;obtain rfl:u=e:=by simpa using B
   have N:wpOp P ops Q u (wpList P ops Q d) b c:=by unfold wpOp;simp only[i];exact a
   exact wpOp_mono (λ G K H=>v (u+1) _ G K r t H) N
  ·have x:e∈ef md ops done:=by simpa using M
   simp only[i,mI,Option.getD_some] at o;obtain⟨j,q,h,D,z⟩:∃j q h,k.op=.extract j q /\ k.dst=Z h:=by
    unfold Bm at o;split at o
    ·rename_i j q h l s;exact⟨j,q,h,l,s⟩
    ·cases o
   simp only[wpList] at a;by_cases p:jI k (yielded ops b.tmps)=ae
   ·simp only[p,if_true] at a;rcases a with a | a
    ·rcases FJ (P:=P) (a:=b) D with ⟨w,F⟩ | ⟨_,L⟩
     ·have s:wpList P ops Q d (b.put k.dst w) c:=by unfold Oper.wp at a;rw[F c] at a;exact a
      exact wpAny_first i (n2 E) (λ g b c a=>by rw[z] at a;exact y h g _ b c a) d.length done b c (nX i A) x (bj ⟨p,F⟩) (v (e+1) _ _ _ r t s)
     ·exact bC a (L _ _ _)
    ·exact bC a.1 (Gp D)
   ·simp only[p] at a;exact wpAny_first i (n2 E) (λ g b c a=>by rw[z] at a;exact y h g _ b c a) d.length done b c (nX i A) x (aP ⟨by simpa using p,I⟩) (v (e+1) _ _ _ r t (by simpa using a))
end
section
variable {P : Program} {ops : bg bD} {md : hY} {C : af → Prop}
def kG (md:hY) (ops:bg bD) (b:J):J->J->bg a8->a8
 | 0,a,done=>lx md ops b a done
 | c+1,a,done=>(ef md ops done).contains a&&Region.free md ops done a&&kG md ops b c (a+1) (done.setIfInBounds a ae)
theorem Bn:∀(d b:J) (done:bg a8),lx md ops d b done=ae->(∀a,a<b->done.getD a ae=ae)->∀a,a∈ef md ops done->b<=a:=by
 intro d b done _ e a f;rcases hX a b with c | c
 ·have:=(mem_ready.1 f).1;rw[e a c] at this;cases this
 ·exact c
theorem I6 {e g:J} {l:Act->Prop} (x:kb ops=ae) (w:Region.sinkB md ops e=ae) (u:lB md ops e=ae) (v:e<ops.size):
  ∀(d:aU bD) (a:J) (done:bg a8) (h:Act),(∀b,b<d.length->d[b]? =ops[a+b]?)->a+d.length=e->HeadInv md ops e done->(∀b,b<a->done.getD b ae=ae) ->
   kG md ops g d.length a done=ae->wpQuiet P ops C l d h->lE P md ops C e (λ m p=>(lx md ops g e m=ae /\ ∀b,b<e->m.getD b ae=ae) /\ l p) d.length done h:=by
 intro d;induction d with
 | nil =>
  intro a done h _ o _ c f n
  obtain rfl:a=e:=by simpa using o
  exact⟨⟨by simpa [kG] using f,c⟩,n⟩
 | cons A d z =>
  intro a done h k o i c f n
  have j:ops[a]? =Z A:=by simpa using (k 0 ar).symm
  rw[jG] at o f
  simp only[kG,b9] at f
  have q:a<e:=E
  have r:a∈ef md ops done:=by simpa using f.1.1
  obtain⟨F,y,t⟩:=yieldsIn_of_qOp j (show qOp P ops C a (wpQuiet P ops C l d) h by unfold qOp;simp only[j];exact n)
  refine HG j x w u v q (λ m p c=>Bn _ _ _ c.1.1 c.1.2) d.length done h i (nX j f.1.2) r y (z (a+1) _ _ ?_ E (i.set r q) ?_ f.2 t)
  ·exact xg
  ·exact wR
end
def CM (a:bg bD) (b:J):a8 :=
 kb a&&decide (b<a.size)&&Region.sinkB .any a b&&lB .any a b&&kG .any a (a.size-b) b 0 (mJ a.size ak)
theorem ei {g:Program} {id:J} {e:Exit->Act->af->Prop} {f:Act} {c:af} {a:aU bD} (b:J) (B:g.follows .mixedOrders=ae) (o:CM a.toArray b=ae)
  (y:∀(u:Tmp) n G f c,e (.panic n) (f.put (Z u) G) c->e (.panic n) f c)
  (x:wpQuiet g a.toArray (λ d=>∃l,d=cx c l) (λ i=>∀d,(∃l,d=cx c l)->wpList g a.toArray e (a.drop b) i d) (a.take b) f):(Code.region id a.toArray ae).wp g e f c:=by
 simp only[CM,b9,hB] at o;obtain⟨⟨⟨⟨t,s⟩,C⟩,z⟩,A⟩:=o;have H:b<a.length:=by simpa using s
 have h:(a.take b).length=b:=by simp;omega
 have q:(a.drop b).length=a.toArray.size-b:=ar;have F:HeadInv .any a.toArray b (mJ a.toArray.size ak) :=
  ⟨ar,λ k I _ r=>(by rw[getD_replicate_false] at r;cases r),λ u _ D=>getD_in (by simpa using D) (getD_replicate_false _ _)⟩
 have w:=I6 (md:=.any) (g:=a.toArray.size-b) t C z s (a.take b) 0 _ f (λ k j=>by rw[h] at j;simp[j]) (by simpa using h) F (λ k j=>E) (by rw[h];exact A) x;refine wp_region_any B ?_;have m:=Au (Q:=e) (g:=a.toArray.size-b) (λ done i d v p=>by
  have:=Av (md:=.any) (Q:=e) t y (a.drop b) b done i d (λ k=>by simp[List.getElem?_drop]) (by rw[q];exact p.1.1) (p.2 d v);rwa [q] at this) _ _ _ {c with drawn:=c.drawn+1} (qC (bI c)) w
 rw[h,show b+(a.toArray.size-b)=a.toArray.size from E] at m;exact m
theorem ag {b d:af} {a:Addr} {v:ay} (e:ap b d) (c: b.cell? a=Z v): d.cell? a=Z v :=
 (e.cell (fX b a c)).trans c
theorem aS {w1 w2 : af} (hb : Below w1.heap.size w1 w2) (b o : J) (v : ay) (h : w1.cell? ⟨b, o, aj⟩ = Z v := by simp) : w2.cell? ⟨b, o, aj⟩ = Z v := ag hb h
theorem aB {b c:af} {a:Addr} {v:ay} (e:ap b c) (d: b.cell? a=Z v) (f: b.frozen? a=ak): c.frozen? a=ak :=
 (e.frozen (fX b a d)).trans f
theorem au {b c d:af} (a:ap b c) (e:ap c d):ap b d:=a.trans (e.mono a.size)
theorem dZ {a b:af} {c d:ay} {f:TypeId} (e:Below (a.alloc (al #[c,d] f)).heap.size (a.alloc (al #[c,d] f)) b):
  b.cell? (ad a.heap.size 0)=Z c /\ b.cell? (ad a.heap.size 1)=Z d /\ ap a b :=
 ⟨ag e ar,ag e ar,(az a _).trans (e.mono ar)⟩
theorem j7 {a b:af} {d e:ay} {f:TypeId} (c:Below (a.alloc (al #[d,e] f)).heap.size (a.alloc (al #[d,e] f)) b):
  b.cell? (ad a.heap.size 0)=Z d /\ b.cell? (ad a.heap.size 1)=Z e /\ b.frozen? (ad a.heap.size 0)=ak /\ b.frozen? (ad a.heap.size 1)=ak /\ ap a b :=
 ⟨ag c ar,ag c ar,aB c (v:=d) ar ar,aB c (v:=e) ar ar,(az a _).trans (c.mono ar)⟩
structure an (w:af) (ao:aG) (n:J) (xs:ac):Prop where
 len:xs.length=n
 cap:n<=9223372036854775807
 cell:0<n->∃b off,ao=Z ⟨b,off,aj⟩ /\ b<w.heap.size /\ ∀k,k<n-> w.cell? ⟨b,off+k,aj⟩=Z (M (O xs k))
theorem an.below {g w':af} {ao n xs} (a:an g ao n xs) (c:ap g w'):an w' ao n xs:=by
 refine⟨a.len,a.cap,λ j=>?_⟩;obtain⟨b,f,rfl,d,h⟩:=a.cell j;exact⟨b,f,I,cm d c.size,λ e i=>(c.cell (p:=⟨b,f+e,aj⟩) d).trans (h e i)⟩
theorem an.at {e c:af} {ao n xs} (h:an e ao n xs) (f:ap e c) {k:J} (j:k<n):
  ∃a b,ao=Z ⟨a,b,aj⟩ /\ a<e.heap.size /\ a<c.heap.size /\ c.cell? ⟨a,b+k,aj⟩=Z (M (O xs k)):=by
 obtain⟨a,b,g,d,i⟩:=h.cell E;exact⟨a,b,g,d,cm d f.size,(f.cell (p:=⟨a,b+k,aj⟩) d).trans (i k j)⟩
theorem kH (c:af) (d:bg ay) (j:TypeId) (b:ac) (e a:J) (h:e=c.heap.size) (g:d=(b.map (ed .i64)).toArray) (f:b.length=a) (l:a<=1000000):
  an (c.alloc (al d j)) (Z (ad e 0)) a b:=by
 subst h;subst g;refine⟨f,E,λ k=>⟨_,_,I,ar,λ m i=>?_⟩⟩;simp[O,f,i]
theorem ig:(prog.info? 3).map (λ a=>(a.zero,a.size,a.bytes))=Z (Z (M 0),1,8):=ah
def av (d:af) (b:J) (c:ay) (a:ac):Prop:=d.ownsRow b 3 1 c a.length (a.map (ed .i64))
abbrev db (f : FuncId) (vs : bg ay) (w : af) (x : aU F) : Prop := aY Tryz.prog f vs w fun e w' => (∃ v, e = aV v ∧ av w' w.heap.size v x) ∧ Below w.heap.size w w'
theorem av.nil (b:af) (a:J):av b a (aa aj 0 0) []:=World.ownsRow_nil _ _ _ _
theorem av.mono {b:af} {base base':J} {v xs} (a:av b base v xs) (g:base'<=base):av b base' v xs:=by
 refine⟨a.1,?_⟩;rcases a.2 with f | ⟨e,c,d,i,h,j⟩
 ·exact bj f
 ·exact aP ⟨e,c,d,i,ez g h,j⟩
theorem av.grown {d a:af} {b:J} {v xs} {c:Option J} (e:av d b v xs) (f:d.grownBy a c) (g:v.ownBlock=aj \/ v.ownBlock≠c):av a b v xs:=World.ownsRow.kept e f g
theorem av.below {e w':af} {a:J} {v xs} (c:av e a v xs) (i:ap e w'):av w' a v xs:=by
 refine⟨c.1,?_⟩;rcases c.2 with h | ⟨b,f,g,k,j,d,l⟩
 ·exact bj h
 ·exact aP ⟨b,f,g,k,j,by rw[i.block b (lt_of_block d)];exact d,l⟩
theorem av.ints {h:af} {i:J} {v xs} (b:av h i v xs):∃d g j,v=aa d g j /\ an h d g xs:=by
 have s:xs.length<=maxLen:=by
  rcases b.2 with ⟨_,e⟩ | ⟨a,k,l,w,p,f,r,o,_⟩<;>omega
 rcases b.2 with ⟨rfl,e⟩ | ⟨a,k,l,rfl,p,f,r,o,t,u⟩
 ·exact⟨aj,0,0,I,e,E,λ b=>E⟩
 ·refine⟨_,_,_,I,I,by unfold maxLen at s;omega,λ _=>⟨a,0,I,lt_of_block f,λ c q=>?_⟩⟩;have m:=iN b (g:=a) I c (M (O xs c)) (by simp[q,O]);have n:((ad a 0):Addr).add c=⟨a,0+c,aj⟩:=by unfold Addr.add;split<;>simp_all
  rw[<- n];exact m
theorem av.form {c:af} {d:J} {v xs} (e:av c d v xs) (l:0<xs.length):
  ∃a b,v=aq a xs.length b /\ d<=a /\ a<c.heap.size /\ an c (Z (ad a 0)) xs.length xs:=by
 obtain⟨a,b,rfl,i,j⟩:=World.ownsRow.form e l;obtain⟨n,p,m,f,k⟩:=e.ints;injection f with g h o
 subst g;subst h;exact⟨a,b,I,i,j,k⟩
theorem av.block {c:af} {b:J} {v xs} (d:av c b v xs):∀a,v.ownBlock=Z a->b<=a /\ a<c.heap.size:=fs d
theorem zV {m:bD} {e:Act} {c:af} {r:Act->af->Prop} {u:Exit->Act->af->Prop} (p q:Operand)
  (B:m.op=.call {callee:=.builtin .append,args:=#[p,q],argTypes:=#[27,27]})
  (f:J) (j:ay) (k:ac) (i:J) (A:k.length=i) (D:e.eval p=j) (C:av c f j k)
  (l:Addr) (s:J) (n:F) (G:e.eval q=aa (Z l) 1 s) (o: c.cell? l=Z (M n))
  (P:i<1000000000) (y:f<=c.heap.size)
  (v:∀h g d,av d f (aq h (i+1) g) (k++[n])->c.grownBy d j.ownBlock->r (e.put m.dst (aq h (i+1) g)) d):m.wp prog e c r u:=by
 obtain⟨N,z,H,K,L⟩:=info_parts ig;subst A;refine wp_append_lies c p q 27 B f 3 N (M 0) 1 8 underlying27 z H K L I aX j k.length _ D C l 1 s [M n] G I ?_ ?_ aX (by unfold maxLen;omega) E y _ I λ h g d w x _ _=>v h g d ?_ x
 ·intro b O a;exact mN
 ·intro O t;simp at t;subst t;rfl
 ·simpa [av] using w
theorem zw {q:bg bD} {b:bD} {a:Act} {d:af} {m:Act->af->Prop} {s:Exit->Act->af->Prop} {r:Prop} (v:b.guard=aj) (k l:Operand)
  (z:b.op=.call {callee:=.builtin .append,args:=#[k,l],argTypes:=#[27,27]})
  (e:J) (f:ay) (g:ac) (c:J) (w:g.length=c) (B:a.eval k=f) (A:av d e f g)
  (i:Addr) (n:J) (j:F) (D:a.eval l=aa (Z i) 1 n) (y: d.cell? i=Z (M j))
  (x:c<1000000000) (u:e<=d.heap.size)
  (t:∀p o h,av h e (aq p (c+1) o) (g++[j])->d.grownBy h f.ownBlock->m (a.put b.dst (aq p (c+1) o)) h):
  if jI b (yielded q a.tmps)=ae then Oper.wp prog b a d m s else r:=by
 have C:jI b (yielded q a.tmps)=ae:=by simp[jI,v]
 rw[a7 C];exact zV k l z e f g c w B A i n j D y x u t
theorem iz {q:bg bD} {rest:aU bD} {h:bD} {d:Act} {c:af} {o:Exit->Act->af->Prop} (w:h.guard=aj) (m n:Operand)
  (A:h.op=.call {callee:=.builtin .append,args:=#[m,n],argTypes:=#[27,27]})
  (e:J) (i:ay) (j:ac) (b:J) (x:j.length=b) (C:d.eval m=i) (B:av c e i j)
  (k:Addr) (p:J) (l:F) (D:d.eval n=aa (Z k) 1 p) (z: c.cell? k=Z (M l))
  (y:b<1000000000) (v:e<=c.heap.size)
  (r:∀g f a,av a e (aq g (b+1) f) (j++[l])->c.grownBy a i.ownBlock->wpList prog q o rest (d.put h.dst (aq g (b+1) f)) a):
  wpList prog q o (h::rest) d c :=
 wpList_plain w λ _ u=>zV m n A e i j b x C B k p l D z y v λ g f a s t=>u _ _ (r g f a s t)
end Go.Proofs.YtkjnhlpccgjfhaaGreatDoor
