/- The law FnExactRunScript: the given row, from its walk, and the tied card. No condition: every input. -/
import Derived.Test.YtkjnhlpccgjfhaaGreatDoorTie
import Derived.Test.YtkjnhlpccgjfhaaGreatDoorCards
import Derived.SevenTiedAt
import Derived.ShutString
import Derived.Test.YtkjnhlpccgjfhaaGreatDoorC38
import Derived.Test.YtkjnhlpccgjfhaaGreatDoorC40
set_option linter.all false
set_option maxRecDepth 100000
set_option maxHeartbeats 4000000
namespace Go.Proofs.YtkjnhlpccgjfhaaGreatDoor
open Go.ChangeShapes Go.WideShapes Go.ChangeAt Go.RowKit Go.Joins
open Go.ChangeMaps (open_string shut_string)
open Go.Proofs.Tryz
open Bool renaming false->ak,true->ae
open Go renaming Value->ay
open Go.Func renaming goes->y
open Go.MakeChecks renaming laidMetH_plain->z
open Go.Value renaming string->aE
open Option renaming some->Z
open Option.some renaming inj->iO
open _root_ renaming Array->bg,Nat->J,if_neg->aF,if_pos->a7,of_decide_eq_true->n3,rfl->I
variable {p q:Prop}
theorem c4 (b:Os) (a:bg ay):laidMetH prog Rows.fnExactRunScriptRow.laid ((World.laidAll prog b Rows.fnExactRunScriptRow.laid).forCall (λ _ _=>0) ⟨#[],a,[]⟩).memory:=by
 rw[z _ _ _ ah];exact laidMet_laidAll _ ah ah
theorem c2 (d:Os) (D:d.Started) (q:Type) (e:TypeId×ay->q):
  ReturnsInHanded {} checked d 3 .any (λ a c=>(Rows.fnExactRunScriptSpec.pre e prog f3 Rows.fnExactRunScriptRow.domain ak a c /\ laidMetH prog Rows.fnExactRunScriptRow.laid a) /\ sizedMet e prog f3 (OpenSpec.ofChange Rows.fnExactRunScriptSpec) ak a c)
   (Rows.fnExactRunScriptSpec.post e prog f3 ak ae ak ak):=by
 refine B0 (C:=checked) (X:= λ a _=>laidMetH prog Rows.fnExactRunScriptRow.laid a) (λ _ _ _ y b=>b.of_heap y) lS D ah func3
  (ChangeSpec.witness_shaped (enc:=e) (C:=checked) (os:=d) (X:= λ a _=>laidMetH prog Rows.fnExactRunScriptRow.laid a) ak (World.laidAll prog d Rows.fnExactRunScriptRow.laid) #[aE ⟨#[]⟩] 8 (World.laidAll_os _ _ _)
   (World.shaped_of_ZipB ah ah) ah ah ah (c4 d _)) ?_
 intro g F c J M G n k j A;have m:=n;have p:=k;obtain⟨Q,S,i,w,rfl,O,P⟩:=k;have h:=i;rw[params3] at h m;obtain⟨o,U,H,K,R,T,N,rfl,rfl,s,B⟩:=trodAll_cons h;obtain⟨rfl,rfl,rfl⟩:=trodAll_nil B;obtain rfl:c=#[o]:=by cases c;simp_all
 obtain⟨rfl,rfl⟩:=trodVars_none w;obtain⟨C,rfl,rfl,rfl,l⟩:=open_string underlying9 (m 0 9 o I I) s;have f:laidMet prog Rows.fnExactRunScriptRow.laid g:=by have b:=j;rw[z _ _ _ ah] at b;exact b
 have t:=Cx f.tail.tail;have v:=At f.tail.tail.tail.tail.tail;have u:=AN f.tail.tail.tail.tail;clear i n j;refine(D1 C g l t v u A).mono λ L E ⟨x,r⟩=>?_
 subst x;exact⟨_,I,_,_,_,[],_,[],p,trodAll_mk1 (shut_bool underlying4 _),(trodAll_cons_mk (shut_string underlying9 l) trodAll_mk0),I,r.frame _,λ b=>by cases b⟩
theorem cl:Tryz.pinned.checked.prog.funcNamed Rows.fnExactRunScriptRow.func=Z 3:=ah
theorem c1:f3.isInstance Tryz.pinned.checked.prog Rows.fnExactRunScriptRow.origin Rows.fnExactRunScriptRow.targs:=n3 ah
theorem dr:f3.isWrapper Tryz.pinned.checked.prog Rows.fnExactRunScriptRow.wrapper Rows.fnExactRunScriptRow.mainSum:=by unfold Func.isWrapper;first | (rw[a7 cS];kernel_rfl) | (rw[aF cS];exact⟨rfl,rfl⟩)
theorem c5:Rows.FnExactRunScriptSaid :=
 OpenClaim.holds_of_wide 3 f3 I I I I I I I ⟨I,I,I,I,I⟩ I I I I I cl func3 D3
  c1 dr (λ c d a b _=>c2 c d a b)
theorem dc:∀(b:J) a,f3.params[b]? =Z a->prog.wantsStandIn a=ak:= λ b a e=>by
 have c:(f3.params.all λ f=> !prog.wantsStandIn f)=ae:=ah;have d:=Array.mem_of_getElem? e;have:=Array.all_eq_true_iff_forall_mem.1 c a d;simpa using this
theorem ge {a:Program} (d:a.funcs.toList.any y=ak) (e:FuncId):a.goes e=ak:=by
 have f:a.funcs.any y=ak:=by rw[<- Array.any_toList];exact d
 have g:∀b:FuncId,(a.funcs[b]?).any y=ak:= λ b=>by
  cases h:a.funcs[b]? with
  | none=>rfl
  | some c =>
   have i:c∈a.funcs.toList:=by rw[Array.mem_toList_iff];exact Array.mem_of_getElem? h
   have:=List.any_eq_false.1 d c i
   simpa using this
 unfold Program.goes;rw[f,Bool.and_false,Bool.or_false];simp[g]
theorem cT {a:Program} (d:a.funcs.toList.any y=ak) (b:OpenClaim) (e:b.start=.entering):ak=b.goesBy a:=by
 unfold OpenClaim.goesBy Program.goesAt Program.goesFrom;rw[e];cases a.funcNamed b.func with
 | none=>rfl
 | some c=>simp[ge d c]
theorem c0:Tryz.pinned.checked.prog.funcs.toList.any y=ak:=ah
theorem FnExactRunScript_holds:Rows.FnExactRunScriptCardSaid :=
 Claim7.holds_tied_plain_at .later [] Rows.fnExactRunScriptCard.laidKinds ae Rows.fnExactRunScriptCard.stood.harness ae c5 (λ _ a=>by cases a) (by as_aux_lemma=>kernel_rfl) (λ _ a=>by cases a) fnExactRunScript_row_tie I ⟨I,I⟩ (by as_aux_lemma=>kernel_rfl) I
  (λ b c d e=>by
   obtain rfl:b=3:=iO (d.symm.trans cl);obtain rfl:c=f3:=(iO (func3.symm.trans e)).symm;exact⟨ah,dc⟩)
  (cT c0 _ I)
end Go.Proofs.YtkjnhlpccgjfhaaGreatDoor
