/- The law FnScriptPrefix: the given row, from its walk, and the tied card. No condition: every input. -/
import Derived.Test.YtkjnhlpccgjfhaaGreatDoorTie
import Derived.Test.YtkjnhlpccgjfhaaGreatDoorCards
import Derived.SevenTiedAt
import Derived.ShutString
import Derived.Test.YtkjnhlpccgjfhaaGreatDoorC38
import Derived.Test.YtkjnhlpccgjfhaaGreatDoorC41
set_option linter.all false
set_option maxRecDepth 100000
set_option maxHeartbeats 4000000
namespace Go.Proofs.YtkjnhlpccgjfhaaGreatDoor
open Go.ChangeShapes Go.WideShapes Go.ChangeAt Go.RowKit Go.Joins Rows
open Go.Proofs.Tryz
open Bool renaming false->ak,true->ae
open Go renaming Value->ay
open Go.Func renaming goes->y
open Go.MakeChecks renaming laidMetH_plain->z
open Go.Value renaming slice->aa
open Option renaming none->aj,some->Z
open Option.some renaming inj->iO
open _root_ renaming Array->bg,Nat->J,if_neg->aF,if_pos->a7,of_decide_eq_true->n3,rfl->I
variable {p q:Prop}
theorem ft (b:Os) (a:bg ay):laidMetH prog fnScriptPrefixRow.laid ((World.laidAll prog b fnScriptPrefixRow.laid).forCall (λ _ _=>0) ⟨#[],a,[]⟩).memory:=by
 rw[z _ _ _ ah];exact laidMet_laidAll _ ah ah
theorem e3 (g:Os) (Z1:g.Started) (O:Type) (i:TypeId×ay->O):
  ReturnsInHanded {} checked g 4 .any (λ b f=>(fnScriptPrefixSpec.pre i prog f4 fnScriptPrefixRow.domain ak b f /\ laidMetH prog fnScriptPrefixRow.laid b) /\ sizedMet i prog f4 (OpenSpec.ofChange fnScriptPrefixSpec) ak b f)
   (fnScriptPrefixSpec.post i prog f4 ak ae ak ak):=by
 refine B0 (C:=checked) (X:= λ b _=>laidMetH prog fnScriptPrefixRow.laid b) (λ _ _ _ V c=>c.of_heap V) lS Z1 ah func4
  (ChangeSpec.witness_shaped (enc:=i) (C:=checked) (os:=g) (X:= λ b _=>laidMetH prog fnScriptPrefixRow.laid b) ak (World.laidAll prog g fnScriptPrefixRow.laid) #[aa aj 0 0,aa aj 0 0] 8 (World.laidAll_os _ _ _)
   (World.shaped_of_ZipB ah ah) ah ah ah (ft g _)) ?_
 intro a ZY f ZU ZR ZX H E D W;have q:=H;have N:=E;obtain⟨ZN,ZM,C,T,rfl,ZP,ZO⟩:=E;have B:=C;rw[params4] at B q;obtain⟨L,ZJ,ZW,ZT,Z5,ZL,ZQ,rfl,rfl,y,Z3⟩:=trodAll_cons B;obtain⟨M,ZI,ZV,ZS,Z4,ZK,rfl,rfl,rfl,A,Z2⟩:=trodAll_cons Z3;obtain⟨rfl,rfl,rfl⟩:=trodAll_nil Z2;obtain rfl:f=#[L,M]:=by cases f;simp_all
 obtain⟨rfl,rfl⟩:=trodVars_none T;have J:=y;have Z9:∀v∈Z5,v.block<a.heap.size:=by obtain⟨s,p⟩:=J;exact DataW.trod_lt s _ _ _ p
 obtain⟨t,d,w,rfl⟩:=okWide_slice underlying24 (q 0 24 L I I);obtain⟨X,F⟩:(d<=1048576->ga a a.heap.size t d) /\ d<=w /\ d<=9223372036854775807:=by
  obtain⟨P,o⟩:=y;obtain⟨Z6,Z7,Z0,h,r⟩:=Dv (v:=aa t d w) (by exact o);injection h with k l m;subst k l m;exact r
 have K:=A;have Z8:∀v∈Z4,v.block<a.heap.size:=by obtain⟨s,p⟩:=K;exact DataW.trod_lt s _ _ _ p
 obtain⟨u,e,x,rfl⟩:=okWide_slice underlying24 (q 1 24 M I I);obtain⟨Y,G⟩:(e<=1048576->ga a a.heap.size u e) /\ e<=x /\ e<=9223372036854775807:=by
  obtain⟨P,o⟩:=A;obtain⟨Z6,Z7,Z0,h,r⟩:=Dv (v:=aa u e x) (by exact o);injection h with k l m;subst k l m;exact r
 have n:laidMet prog fnScriptPrefixRow.laid a:=by have c:=D;rw[z _ _ _ ah] at c;exact c
 have Q:=Cx n.tail.tail;have S:=At n.tail.tail.tail.tail.tail;have R:=AN n.tail.tail.tail.tail;clear C H D;refine(Ok t d w u e x a X F.1 F.2 Y G.1 G.2 Q S R W).mono λ h ZZ ⟨U,j⟩=>?_
 subst U;exact⟨_,I,_,_,_,[],_,[],N,trodAll_mk1 (shut_bool underlying4 _),(trodAll_cons_mk (Below.trod DB ah (n3 ah) J j Z9) (trodAll_cons_mk (Below.trod DB ah (n3 ah) K j Z8) trodAll_mk0)),I,j.frame _,λ c=>by cases c⟩
theorem cF:Tryz.pinned.checked.prog.funcNamed fnScriptPrefixRow.func=Z 4:=ah
theorem e2:f4.isInstance Tryz.pinned.checked.prog fnScriptPrefixRow.origin fnScriptPrefixRow.targs:=n3 ah
theorem gc:f4.isWrapper Tryz.pinned.checked.prog fnScriptPrefixRow.wrapper fnScriptPrefixRow.mainSum:=by unfold Func.isWrapper;first | (rw[a7 cS];kernel_rfl) | (rw[aF cS];exact⟨rfl,rfl⟩)
theorem fx:FnScriptPrefixSaid :=
 OpenClaim.holds_of_wide 4 f4 I I I I I I I ⟨I,I,I,I,I⟩ I I I I I cF func4 Oj
  e2 gc (λ c d a b _=>e3 c d a b)
theorem gb:∀(b:J) a,f4.params[b]? =Z a->prog.wantsStandIn a=ak:= λ b a e=>by
 have c:(f4.params.all λ f=> !prog.wantsStandIn f)=ae:=ah;have d:=Array.mem_of_getElem? e;have:=Array.all_eq_true_iff_forall_mem.1 c a d;simpa using this
theorem ge {a:Program} (d:a.funcs.toList.any y=ak) (e:FuncId):a.goes e=ak:=by
 have f:a.funcs.any y=ak:=by rw[<- Array.any_toList];exact d
 have g:∀b:FuncId,(a.funcs[b]?).any y=ak:= λ b=>by
  cases h:a.funcs[b]? with
  | none=>rfl
  | some c =>
   have i:c∈a.funcs.toList:=by rw[Array.mem_toList_iff];exact Array.mem_of_getElem? h
   have:=List.any_eq_false.1 d c i
   simpa using this
 unfold Program.goes;rw[f,Bool.and_false,Bool.or_false];simp[g]
theorem cT {a:Program} (d:a.funcs.toList.any y=ak) (b:OpenClaim) (e:b.start=.entering):ak=b.goesBy a:=by
 unfold OpenClaim.goesBy Program.goesAt Program.goesFrom;rw[e];cases a.funcNamed b.func with
 | none=>rfl
 | some c=>simp[ge d c]
theorem e1:Tryz.pinned.checked.prog.funcs.toList.any y=ak:=ah
theorem FnScriptPrefix_holds:FnScriptPrefixCardSaid :=
 Claim7.holds_tied_plain_at .later [] fnScriptPrefixCard.laidKinds ae fnScriptPrefixCard.stood.harness ae fx (λ _ a=>by cases a) (by as_aux_lemma=>kernel_rfl) (λ _ a=>by cases a) fnScriptPrefix_row_tie I ⟨I,I⟩ (by as_aux_lemma=>kernel_rfl) I
  (λ b c d e=>by
   obtain rfl:b=4:=iO (d.symm.trans cF);obtain rfl:c=f4:=(iO (func4.symm.trans e)).symm;exact⟨ah,gb⟩)
  (cT e1 _ I)
end Go.Proofs.YtkjnhlpccgjfhaaGreatDoor
