/- A part of the proof: lemmas (my texts, shortened by a program of mine). -/
import Derived.Test.YtkjnhlpccgjfhaaGreatDoorRows
import Derived.Lay
import Derived.LaidLaws
import Derived.LaidMore
import Derived.Stop.LaidErr
import Derived.Stop.Joined
import Derived.SizedLaws
import Derived.HandedShaped
import Derived.MakeChecks
import Derived.Test.YtkjnhlpccgjfhaaGreatDoorC20
import Derived.Test.YtkjnhlpccgjfhaaGreatDoorC22
set_option linter.all false
set_option maxRecDepth 100000
set_option maxHeartbeats 4000000
namespace Go.Proofs.YtkjnhlpccgjfhaaGreatDoor
open Go.ChangeShapes Go.WideShapes Go.ChangeAt Go.RowKit Go.Joins
open Go.Proofs.Tryz
open Go renaming Calls->aY,Value->ay,World->af
open Go.Ending renaming returned->aV
open Option renaming none->aj,some->Z
open Option.some renaming inj->iO
open _root_ renaming Array->bg,Bool->a8,List->aU,Nat->J,rfl->I
variable {p q:Prop}
section
variable {H : Type} {enc : TypeId × ay → H}
theorem B0 {r:Assume} {C:Checked} {o:Os} {i:FuncId} {d:Func} {g:ChangeSpec} {t:aU PathCond} {f u v s:a8} {X:af->bg ay->Prop}
  (D:∀(a q:af) (c:bg ay),a.heap=q.heap->X a c->X q c)
  (lS:ownKnob C.prog.godebug=aj) (Q:o.Started) (P: C.prog.inits.idxOf? i=aj) (F:C.prog.funcs[i]? =Z d)
  (R:∃(a:af) (e:Tape) (b:Input),a.os=o /\ (a.forCall e b).Shaped C.prog /\ b.vars=[] /\ Input.okWide C.prog (a.forCall e b) .any a.heap.size i b /\
   ((g.pre enc C.prog d t f (a.forCall e b).memory b.args /\ X (a.forCall e b).memory b.args) /\ sizedMet enc C.prog d (OpenSpec.ofChange g) f (a.forCall e b).memory b.args) /\ r.holds C.prog (lone (Frame.enter C.prog i b.args .normal) [] (a.forCall e b)))
  (B:∀(h:af) (A:J) (c:bg ay) (m n:aU (DataW H)) (l:aU MemPlace),
   (∀(w:J) x j,d.params[w]? =Z x->c[w]? =Z j->Value.okWide C.prog h .any A x j) ->
   DataW.Whole enc C.prog d.params.toList g.vars f h c.toList m n l->X h c->h.ShapedOpen C.prog ->
   aY C.prog i c h λ k p=>∃j,k=aV j /\ g.post enc C.prog d f u v s h c j p):
  ReturnsInHanded r C o i .any (λ a c=>(g.pre enc C.prog d t f a c /\ X a c) /\ sizedMet enc C.prog d (OpenSpec.ofChange g) f a c) (g.post enc C.prog d f u v s):=by
 refine returnsInHanded_of_calls lS Q P R ?_;intro a e b _ L _ G K U;obtain⟨_,_,_,S,y,_,_,_,_,M⟩:=G;have k:S=d:=iO (y.symm.trans F);subst k;obtain⟨⟨⟨m,n,l,N,T⟩,O⟩,V⟩:=K;have z:=DataW.Whole.of_heap (w':=a.forCall e b) a6 N;refine(B (a.forCall e b) a.heap.size b.args m n l M z (D _ _ _ a6 O) L).mono λ k p ⟨j,E,W⟩=>?_
 subst E;exact ChangeSpec.post_blind W
end
theorem Cx {a:af} {c:aU (String×DataW Unit)} (b:laidMet prog (("internal/strconv.uint64pow10",Rows.laid_internal_strconv_uint64pow10)::c) a):hC a :=
 Lib.tabIs_of_head (k:=.u64) (zs:=Lib.pow10Tab) (show prog.globalNamed "internal/strconv.uint64pow10" =Z 5 from ah) (show (prog.globals[5]?).map (·.type)=Z 219 from ah)
  underlying219 underlying182 ah ah b
theorem C2: "*" ++ "errors.errorString" = "*errors.errorString" :=aX
theorem Dc (a:TypeId) (b: prog.typeName? 3 a=Z "*errors.errorString"):a=215 :=
 typeName_ptr_named (nm:= "errors.errorString") (by rw[C2];kernel_rfl) ah aX a (by rw[C2];exact b)
theorem At {a:af} {e:aU (String×DataW Unit)} (b:laidMet prog (("strconv.ErrSyntax",Rows.laid_strconv_ErrSyntax)::e) a):∃f d,a.var? prog "strconv.ErrSyntax" =Z #[.iface f d]:=by
 obtain⟨g,h,c,-,-,-⟩:=laid_sentinel b (g:=1) (ti:=75) ah ah underlying75 Dc underlying215 underlying217 I I underlying9 ah ah;exact⟨_,_,c⟩
theorem AN {a:af} {e:aU (String×DataW Unit)} (b:laidMet prog (("strconv.ErrRange",Rows.laid_strconv_ErrRange)::e) a):∃f d,a.var? prog "strconv.ErrRange" =Z #[.iface f d]:=by
 obtain⟨g,h,c,-,-,-⟩:=laid_sentinel b (g:=2) (ti:=75) ah ah underlying75 Dc underlying215 underlying217 I I underlying9 ah ah;exact⟨_,_,c⟩
end Go.Proofs.YtkjnhlpccgjfhaaGreatDoor
