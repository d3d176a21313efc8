/- A part of the proof: lemmas (my texts, shortened by a program of mine). -/
import Derived.ProofKit
import Derived.OpenShut
import Derived.ChangeOld
import Derived.Below
import Derived.Lib.SmallJoins
import Derived.Test.YtkjnhlpccgjfhaaGreatDoorC08
set_option linter.all false
set_option maxRecDepth 100000
set_option maxHeartbeats 4000000
namespace Go.Proofs.YtkjnhlpccgjfhaaGreatDoor
open Go.ChangeShapes Go.WideShapes Go.ChangeAt Go.RowKit Go.Joins
open Go.Proofs.Tryz
open Bool renaming true->ae
open Go renaming Value->ay,World->af
open Go.Value renaming slice->aa
open Go.World renaming block_lt_of_cell?->fX
open List renaming getD_eq_getElem?_getD->jH,getElem?_eq_getElem->fV
open Option renaming none->aj,some->Z
open _root_ renaming Bool->a8,List->aU,Nat->J,rfl->I
variable {p q:Prop}
theorem lS:ownKnob prog.godebug=aj:=ah
theorem DB:laidOutB prog=ae:=ah
theorem Dv {k:Type} {t:TypeId×ay->k} {g:af} {r:J} {w:a8} {u:J} {v:ay} {C:DataW k×aU MemPlace}
  (b:DataW.trod t prog g r (λ _=>ae) w u 24 [v]=Z C):∃l c e,v=aa l c e /\ (c<=1048576->ga g g.heap.size l c) /\ c<=e /\ c<=9223372036854775807:=by
 rcases open_ints underlying24 underlying5 ah b with ⟨i,_⟩ | ⟨d,K,e,q,i,_,x,y,B,_,n,A⟩
 ·obtain rfl:v=_:=by simpa using i
  exact⟨aj,0,0,I,λ _=>⟨E,λ b=>E⟩,E,E⟩
 ·obtain rfl:v=_:=by simpa using i
  refine⟨_,_,_,I,λ G=>⟨E,λ D=>?_⟩,x,by unfold maxLen at y;omega⟩;have H:q.length=e:=by simpa using B
  have a:=n 0 E;have p:d.spot=aj:=by
   have:(d.add 0)=d:=rfl;rw[this] at a;unfold World.cell? at a;split at a
   ·by_cases b:d.spot.isSome=ae
    ·simp[b] at a
    ·simpa using b
   ·simp at a
  obtain⟨h,j,L⟩:=d;simp only at p;subst p;refine⟨h,j,I,fX g _ a,λ f F=>?_⟩;have o:=n f E;have s:(⟨h,j,aj⟩:Addr).add f=⟨h,j+f,aj⟩:=by unfold Addr.add;split<;>simp_all
  rw[s] at o;have z:=A (q.getD f 0) (by rw[jH,fV E];exact List.getElem_mem _);have m:=bounds_u8 z;exact⟨_,m.1,m.2,o⟩
end Go.Proofs.YtkjnhlpccgjfhaaGreatDoor
