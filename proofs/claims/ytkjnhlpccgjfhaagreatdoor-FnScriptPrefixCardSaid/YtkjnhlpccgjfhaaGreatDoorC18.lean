/- A part of the proof: lemmas (my texts, shortened by a program of mine). -/
import Derived.Deep.DeepCutAuto
import Derived.Test.YtkjnhlpccgjfhaaGreatDoorC17
set_option linter.all false
set_option maxRecDepth 100000
set_option maxHeartbeats 4000000
namespace Go.Proofs.YtkjnhlpccgjfhaaGreatDoor
open Go.RowKit
open Go.Proofs.Tryz
open And renaming intro->gC
open Bool renaming and_eq_true->b9,false->ak,true->ae,true_and->eo
open Classical renaming byContradiction->jJ
open Go renaming Calls->aY,Value->ay,World->af,bodyPost_ret->aK,results->aJ
open Go.Act renaming put->aT
open Go.Ending renaming returned->aV
open Go.Obj renaming cells->al
open Go.Oper renaming upon->jC
open Go.Value renaming agg->ba,bool->aw,slice->aa
open Go.World renaming cell?_setCell_other->c3,cell?_setCell_same->fZ
open List renaming replicate->bE
open Nat renaming le_of_lt->h3,le_refl->bL,lt_of_lt_of_le->cm,lt_succ_self->gB
open Option renaming none->aj,some->Z
open Or renaming inl->bj,inr->aP
open _root_ renaming Bool->a8,Int->F,List->aU,Nat->J,beq_eq_false_iff_ne->dx,decide_eq_true->fW,decide_eq_true_eq->hB,if_neg->aF,if_pos->a7,rfl->I
variable {p q:Prop}
theorem JJ (b g r s j q p:J) (f:ac) (e:af) (P:a8) (G:b<=16) (t:∀a,a<b-> e.cell? (ad j a)=Z (M (O f a))) (v:P=ae↔∀d,d<b->O f d<=0):
  aY prog 82 #[ba #[M b,aq r g g,aq s b q,aq j b p]] e
   λ z w=>z=aV (aw P) /\ ap e w:=by
 have x:=ab t;have n:=ab v;clear t v;go_enter func82,ntmps82;go_wp2;go_loop [3] (λ d=>∃a:J,d=M a /\ a<=b /\ U (∀c,c<a->O f c<=0)) (λ d=>b-(intOf d).toNat)
 case atStart=>exact⟨0,I,E,λ c D=>E⟩
 case round =>
  obtain⟨a,rfl,H,m⟩:=hrel;by_cases u:a<b
  ·have K:(0:F)<=(a:F):=E;have L:(a:F)<(b:F):=E;have C:=ag (az e (al #[M b,aq r g g,aq s b q,aq j b p] 94)) (x.o a u);obtain⟨l,k⟩:∃l,O f a=l:=⟨_,I⟩;have o:=ab k;rw[k] at C;clear k;by_cases N:0<l
   ·have i:U (P=ak):=by
     cases P
     ·rfl
     ·have B:=n.o.1 I a u;rw[o.o] at B;omega
    go_wp2
    go_ret
    exact⟨by rw[i.o];rfl,az e _⟩
   ·have y:U (∀c,c<a+1->O f c<=0):= λ c D=>by
     by_cases A:c<a
     ·exact m.o c A
     ·obtain rfl:c=a:=E;rw[o.o];omega
    go_wp2
    go_round
    case rel=>exact⟨a+1,by go_num,E,y⟩
    case measure=>simp[intOf];omega
  ·obtain rfl:a=b:=E;have i:U (P=ae):=n.o.2 m.o;go_wp2;go_ret;exact⟨by rw[i.o];rfl,az e _⟩
structure hD where
 gF:J
 gL:J
 cL:J
 N:J
 NN:J
 A:J
 B:J
 V:J
 pF:J
 pT:J
structure hD.good (s:hD):Prop where
 n16:s.N<=16
 nn:s.NN=s.N*s.N
 FT:s.pF≠s.pT
 VF:s.V≠s.pF
 VT:s.V≠s.pT
 gF:s.gF<s.A
 gL:s.gL<s.A
 AB:s.A+1<s.B
 BF:s.B<=s.pF
 BT:s.B<=s.pT
 BV:s.B<=s.V
structure hc (s:hD) (W:af) (FL bb pf pt:ac):Prop where
 x0: W.cell? (ad s.A 0)=Z (M s.N)
 x1: W.cell? (ad s.A 1)=Z (aq s.gF s.NN s.NN)
 x2: W.cell? (ad s.A 2)=Z (aq s.gL s.N s.cL)
 v0: W.cell? (ad s.V 0)=Z (aq s.pF s.N s.N)
 v1: W.cell? (ad s.V 1)=Z (aq s.pT s.N s.N)
 z0: W.cell? (ad (s.A+1) 0)=Z (aa aj 0 0)
 z1: W.cell? (ad (s.A+1) 1)=Z (aa aj 0 0)
 g0: W.frozen? (ad (s.A+1) 0)=ak
 g1: W.frozen? (ad (s.A+1) 1)=ak
 f:∀k,k<s.NN-> W.cell? (ad s.gF k)=Z (M (O FL k))
 l:∀k,k<s.N-> W.cell? (ad s.gL k)=Z (M (O bb k))
 pf:av W s.B (aq s.pF s.N s.N) pf
 pt:av W s.B (aq s.pT s.N s.N) pt
theorem hc.span {a:hD} {p h:af} {o bb u v m n:ac} {b:J} (c:hc a p o bb u v) (f:a.good) (d:aA b (b+1) p h) (g:b=a.pF \/ b=a.pT) (r:av h a.B (aq a.pF a.N a.N) m) (w:av h a.B (aq a.pT a.N a.N) n):hc a h o bb m n:=by
 have x:=f.gF;have y:=f.gL;have z:=f.AB;have A:=f.BF;have B:=f.BT;have C:=f.VF;have D:=f.VT;have j:a.A<b \/ b+1<=a.A:=by rcases g with e | e<;>omega
 have i:a.A+1<b \/ b+1<=a.A+1:=by rcases g with e | e<;>omega
 have q:a.V<b \/ b+1<=a.V:=by rcases g with e | e<;>omega
 have s:a.gF<b \/ b+1<=a.gF:=by rcases g with e | e<;>omega
 have t:a.gL<b \/ b+1<=a.gL:=by rcases g with e | e<;>omega
 exact⟨d.keep c.x0 j,d.keep c.x1 j,d.keep c.x2 j,d.keep c.v0 q,d.keep c.v1 q,d.keep c.z0 i,d.keep c.z1 i,gM d c.z0 c.g0 i,gM d c.z1 c.g1 i,λ l k=>d.keep (c.f l k) s,λ l k=>d.keep (c.l l k) t,r,w⟩
theorem lr {b:af} {a c:J} {d:ay}:aA a (a+1) b (b.setCell (ad a c) d):=aA.set ⟨bL _,gB _⟩
theorem hc.setF {a:hD} {f:af} {e bb h i:ac} (b:hc a f e bb h i) (g:a.good) {c:J} (k:c<a.N) (d:F):hc a (f.setCell (ad a.pF c) (M d)) e bb (h.set c d) i :=
 b.span g lr (bj I) (b.pf.store k d).1 (fK b.pt lr (λ j=>g.FT j.symm))
theorem hc.setT {a:hD} {f:af} {e bb h i:ac} (b:hc a f e bb h i) (g:a.good) {c:J} (j:c<a.N) (d:F):hc a (f.setCell (ad a.pT c) (M d)) e bb h (i.set c d) :=
 b.span g lr (aP I) (fK b.pf lr g.FT) (b.pt.store j d).1
theorem hc.drop {l:hD} {b:af} {i bb j k:ac} {g:J} {c:J} {a:J} {d:af} (f:Below a d b) (e:a<=c) (h:ay):Below a d (b.setCell (ad c g) h):=f.setCell e _
structure rN (W0 W:af) (N f t v:J):Prop where
 rf:av W W0.heap.size (aq f N N) (bE N 0)
 rt:av W W0.heap.size (aq t N N) (bE N 0)
 v0: W.cell? (ad v 0)=Z (aq f N N)
 v1: W.cell? (ad v 1)=Z (aq t N N)
 ft:f≠t
 vf:v≠f
 vt:v≠t
 lo:W0.heap.size<=v
 below:ap W0 W
theorem q2 {d c:af} {a l q b e f dy m:J} (y:av c dy (aq l a a) (bE a 0)) (z:av c m (aq q a a) (bE a 0)) (s:l=e) (t:q=f) (u:d.heap.size<=dy) (v:d.heap.size<=m) (x:e≠f) (o:b≠e) (p:b≠f) (j:d.heap.size<=b) (w:ap d c) (g:∃k,c.cell? (ad b 0)=Z k) (h:∃k,c.cell? (ad b 1)=Z k):
  rN d ((c.setCell (ad b 0) (aq e a a)).setCell (ad b 1) (aq f a a)) a e f b:=by
 subst s t;obtain⟨B,g⟩:=g;obtain⟨A,h⟩:=h;have n:aA b (b+1) c ((c.setCell (ad b 0) (aq l a a)).setCell (ad b 1) (aq q a a)):=lr.trans lr;have r:(c.setCell (ad b 0) (aq l a a)).cell? (ad b 1)=Z A:=(c3 c _ _ _ ar).trans h;exact⟨(fK y n (λ i=>o i.symm)).mono u,(fK z n (λ i=>p i.symm)).mono v,(c3 _ _ _ _ ar).trans (fZ c _ _ g),fZ _ _ _ r,x,o,p,j,(w.setCell j _).setCell j _⟩
theorem Cg {e b:af} {a c d dy g:J} (m:TypeId) (h:av b dy (aq c a a) (bE a 0)) (i:av b g (aq d a a) (bE a 0)) (j:e.heap.size<=dy) (k:e.heap.size<=g) (l:c≠d) (f:ap e b):
  rN e (b.alloc (al #[aq c a a,aq d a a] m)) a c d b.heap.size:=by
 have n:=(h.block c I).2;have o:=(i.block d I).2;exact⟨(h.below (az _ _)).mono j,(i.below (az _ _)).mono k,ar,ar,l,E,E,f.size,f.trans ((az b _).mono f.size)⟩
def NC (a:J) (k:J->J->F) (bb:ac) (h:J) (l:Ending) (c:af):Prop :=
 ∃(d e:J) (f g:ac) (m n:J->J),l=aV (ba #[aq d a a,aq e a a]) /\ h<=d /\ h<=e /\ d<c.heap.size /\ e<c.heap.size /\
  (∀b,b<a-> c.cell? (ad d b)=Z (M (O f b))) /\ (∀b,b<a-> c.cell? (ad e b)=Z (M (O g b))) /\ dU a k (O bb) f g m n /\ ∀j i,j<a->i<a->iw k f g j i
theorem IE (f A T V YB Z6 YC:J) (Z8 bb:aU F) (s:J->J->F) (i:af) (YV:f<=16) (Yw:A=f*f)
    (Yy:∀a,a<A-> i.cell? ⟨T,a,aj⟩=Z (.int .i64 (O Z8 a))) (Yx:∀a,a<f-> i.cell? ⟨V,a,aj⟩=Z (.int .i64 (O bb a))) (Yr:T<i.heap.size) (Yq:V<i.heap.size) (Yt:gU f Z8 s):
    aY prog 182 #[ba #[.int .i64 f,aa (Z ⟨T,0,aj⟩) A A,aa (Z ⟨V,0,aj⟩) f Z6,aa (Z ⟨YB,0,aj⟩) f YC]] i
      λ Z5 YN=>NC f s bb i.heap.size Z5 YN /\ Below i.heap.size i YN:=by
  have YM:=ab Yy;have YJ:=ab Yx;have Yf:=ab Yt;have YH:=ab Yw;clear Yy Yx Yt Yw;go_enter func182,ntmps182;go_wp2;obtain⟨l,X⟩:∃YZ,(i.alloc (al #[.int .i64 f,aa (Z ⟨T,0,aj⟩) A A,aa (Z ⟨V,0,aj⟩) f Z6,aa (Z ⟨YB,0,aj⟩) f YC] 94)).alloc (al #[aa aj 0 0,aa aj 0 0] 134)=YZ:=⟨_,I⟩;rw[X];have Y9:Below i.heap.size i l:=by rw[<- X];exact aD
  have W: l.cell? ⟨i.heap.size,0,aj⟩=Z (.int .i64 f):=by rw[<- X];simp
  have Y7: l.cell? ⟨i.heap.size,1,aj⟩=Z (aa (Z ⟨T,0,aj⟩) A A):=by rw[<- X];simp
  have Y6: l.cell? ⟨i.heap.size,2,aj⟩=Z (aa (Z ⟨V,0,aj⟩) f Z6):=by rw[<- X];simp
  have Zi: l.cell? ⟨i.heap.size+1,0,aj⟩=Z (aa aj 0 0):=by rw[<- X];simp
  have Zh: l.cell? ⟨i.heap.size+1,1,aj⟩=Z (aa aj 0 0):=by rw[<- X];simp
  have Zb: l.frozen? ⟨i.heap.size+1,0,aj⟩=ak:=by rw[<- X];simp
  have Za: l.frozen? ⟨i.heap.size+1,1,aj⟩=ak:=by rw[<- X];simp
  have YE:U (l.heap.size=i.heap.size+1+1):=by rw[U,<- X];simp
  clear X;refine jT (ι:=J×J×J) (λ g ZV=>((((((((g.put (Z 8) (.pointer (Z ⟨i.heap.size,0,aj⟩))).put (Z 9) (.int .i64 f)).put (Z 10) (aa (Z ⟨ZV.1,0,aj⟩) f f)).put (Z 11) (.pointer (Z ⟨i.heap.size,0,aj⟩))).put (Z 12) (.int .i64 f)).put (Z 13) (aa (Z ⟨ZV.2.1,0,aj⟩) f f)).put (Z 14) (ba #[aa (Z ⟨ZV.1,0,aj⟩) f f,aa (Z ⟨ZV.2.1,0,aj⟩) f f])).put (Z 3) (.pointer (Z ⟨ZV.2.2,0,aj⟩)))) (λ ZV YZ=>rN l YZ f ZV.1 ZV.2.1 ZV.2.2) ?_ ?_
  · go_region_with (first | (refine j1 (w:=(l.alloc _).drew) (X:= λ ZE=>jC prog _ _ _ _ (ZE.andThen _)) f E ?_;intro t ZK L ZW;have e:=ag L (a:=⟨i.heap.size,0,aj⟩) (v:=.int .i64 f) (by simp[W]);have ZH:=aS L l.heap.size 0 (aa aj 0 0);have ZG:=aS L l.heap.size 1 (aa aj 0 0);have YA:=aB L (a:=⟨l.heap.size,0,aj⟩) (v:=aa aj 0 0) ar ar;have Yz:=aB L (a:=⟨l.heap.size,1,aj⟩) (v:=aa aj 0 0) ar ar;go_simp) | (refine j1 (w:=l.drew) (X:= λ ZE=>jC prog _ _ _ _ (ZE.andThen _)) f E ?_;intro t ZK L ZW;have e:=ag L (a:=⟨i.heap.size,0,aj⟩) (v:=.int .i64 f) (by simp[W]);go_simp) | (refine j1 (w:=t.alloc _) (X:= λ ZE=>jC prog _ _ _ _ (ZE.andThen _)) f E ?_;intro ZD ZJ o X3;have d:=ag o (a:=⟨i.heap.size,0,aj⟩) (v:=.int .i64 f) (by simp[e]);have ZH:=aS o t.heap.size 0 (aa aj 0 0);have ZG:=aS o t.heap.size 1 (aa aj 0 0);have YA:=aB o (a:=⟨t.heap.size,0,aj⟩) (v:=aa aj 0 0) ar ar;have Yz:=aB o (a:=⟨t.heap.size,1,aj⟩) (v:=aa aj 0 0) ar ar;go_simp) | (refine j1 (w:=t) (X:= λ ZE=>jC prog _ _ _ _ (ZE.andThen _)) f E ?_;intro ZD ZJ o X3;have d:=ag o e;(try (have XO:=ag o ZH;have XN:=ag o ZG;have XY:=aB o ZH YA;have XX:=aB o ZG Yz));go_simp));all_goals first
      | (refine⟨(l.heap.size,t.heap.size,ZD.heap.size),?_,?_⟩
         · simp[aT];done
         · exact Cg _ (ZK.below o) ZJ aZ (h3 ZW) (Nat.ne_of_lt ZW) (au (e8 L) o))
      | (refine⟨(t.heap.size,l.heap.size,ZD.heap.size),?_,?_⟩
         · simp[aT];done
         · exact Cg _ ZJ (ZK.below o) (h3 ZW) aZ (Nat.ne_of_gt ZW) (au (e8 L) o))
      | (refine⟨(l.heap.size,t.heap.size+1,t.heap.size),?_,?_⟩
         · simp[aT];done
         · have YY:l.heap.size<t.heap.size:=ZW;have ZL:Below l.heap.size l ZD:=au (au (e8 L) (az t _)) o;refine q2 (ZK.below (au (az t _) o)) ZJ rfl ar aZ (by simp;omega) E E E E ZL ⟨_,ZH⟩ ⟨_,ZG⟩)
      | (refine⟨(t.heap.size+1,l.heap.size,t.heap.size),?_,?_⟩
         · simp[aT];done
         · have YY:l.heap.size<t.heap.size:=ZW;have ZL:Below l.heap.size l ZD:=au (au (e8 L) (az t _)) o;refine q2 ZJ (ZK.below (au (az t _) o)) ar rfl (by simp;omega) aZ E E E E ZL ⟨_,ZH⟩ ⟨_,ZG⟩)
      | (refine⟨(l.heap.size+1,t.heap.size,l.heap.size),?_,?_⟩
         · simp[aT];done
         · have YY:l.heap.size+1<t.heap.size:=by have j:=ZW;simpa using j
           have ZL:Below l.heap.size l ZD:=au (au (az l _) (e8 L)) o;refine q2 (ZK.below o) ZJ ar rfl ar E E E E aZ ZL ⟨_,ag o ZH⟩ ⟨_,ag o ZG⟩)
      | (refine⟨(t.heap.size,l.heap.size+1,l.heap.size),?_,?_⟩
         · simp[aT];done
         · have YY:l.heap.size+1<t.heap.size:=by have j:=ZW;simpa using j
           have ZL:Below l.heap.size l ZD:=au (au (az l _) (e8 L)) o;refine q2 ZJ (ZK.below o) rfl ar E ar E E E aZ ZL ⟨_,ag o ZH⟩ ⟨_,ag o ZG⟩)
  · rintro⟨x,z,ZS⟩ X0 C;simp only at C;have X4:=YE.o;have YU:=C.rf.block x I;have YT:=C.rt.block z I;have YX:Below i.heap.size i X0:=au Y9 C.below;have Zv:U (i.heap.size<=x /\ i.heap.size<=z /\ i.heap.size<=ZS /\ i.heap.size<=i.heap.size+1):=by have:=C.lo;exact⟨E,E,E,E⟩
    obtain⟨r,Zt⟩:∃r,i.heap.size=r:=⟨_,I⟩;obtain⟨Z1,YW⟩:∃Z1,l.heap.size=Z1:=⟨_,I⟩;have ZB:U (hD.good (⟨T,V,Z6,f,A,r,Z1,ZS,x,z⟩:hD)):=by
      rw[U,<- Zt,<- YW];exact⟨YV,YH.o,C.ft,C.vf,C.vt,Yr,Yq,by simp only;omega,YU.1,YT.1,C.lo⟩
    have YF:U (hc (⟨T,V,Z6,f,A,r,Z1,ZS,x,z⟩:hD) X0 Z8 bb (bE f 0) (bE f 0)):=by
      rw[U,<- Zt,<- YW];have K:=C.below;exact⟨ag K W,ag K Y7,ag K Y6,C.v0,C.v1,ag K Zi,ag K Zh,aB K Zi Zb,aB K Zh Za,λ a Zm=>ag K (ag Y9 (YM.o a Zm)),λ a Zm=>ag K (ag Y9 (YJ.o a Zm)),C.rf,C.rt⟩
    have Y5:=ab Zt;rw[Zt] at YX Zv Yr Yq ⊢;clear C Y9 W Y7 Y6 Zi Zh Zb Za X4 YE YU YT Zt YW YM YJ l;go_wp2;go_loopg [4] f (λ ZF m wr=>∃(a:J) (b:aU F),a<=f /\ ZF=f-a /\ m=.int .i64 a /\ U (hc (⟨T,V,Z6,f,A,r,Z1,ZS,x,z⟩:hD) wr Z8 bb b (bE f 0)) /\ U ((∀k,k<a->O b k=if 0<O bb k then 100 else 0) /\ ∀k,a<=k->O b k=0) /\ Below r i wr)
    case atStart=>exact⟨0,_,E,E,I,YF,⟨λ k ZR=>E,λ k _=>eF _ _⟩,YX⟩
    case round =>
      clear YF YX;obtain⟨a,b,Zm,rfl,rfl,c,Z0,u⟩:=hrel;have W: wr.cell? ⟨r,0,aj⟩=Z (.int .i64 f):=c.o.x0;have Y6: wr.cell? ⟨r,2,aj⟩=Z (aa (Z ⟨V,0,aj⟩) f Z6):=c.o.x2;have ZQ: wr.cell? ⟨ZS,0,aj⟩=Z (aa (Z ⟨x,0,aj⟩) f f):=c.o.v0;by_cases w:a<f
      · have XW:(0:F)<=(a:F):=E;have XV:(a:F)<(f:F):=E;have Ya: wr.cell? ⟨V,a,aj⟩=Z (.int .i64 (O bb a)):=c.o.l a w;obtain⟨H,Y⟩:∃H,O bb a=H:=⟨_,I⟩;have Q:=ab Y;rw[Y] at Ya;clear Y;by_cases Yp:0<H
        · obtain⟨Yi,Yh,_⟩:=c.o.pf.cellAt w;have ZT:=ab (c.o.setF ZB.o w 100);have YI:U (b.length=f):=c.o.pf.len;have Zf:U ((∀k,k<a+1->O (b.set a 100) k=if 0<O bb k then 100 else 0) /\ ∀k,a+1<=k->O (b.set a 100) k=0):=by
            refine⟨λ k ZR=>?_,λ k ZR=>?_⟩
            · rw[cO];by_cases Z5:a=k
              · subst Z5;rw[a7 ⟨rfl,by have:=YI.o;omega⟩,Q.o,a7 Yp]
              · rw[aF λ S=>Z5 S.1];exact Z0.o.1 k E
            · rw[cO,aF E];exact Z0.o.2 k E
          have Zs:Below r i (wr.setCell ⟨x,a,aj⟩ (.int .i64 100)):=u.setCell Zv.o.1 _;generalize b.set a 100=YQ at ZT Zf;clear c Z0 Q YI;go_wp2;go_roundg (f-(a+1))
          case measure=>omega
          case rel=>exact⟨a+1,YQ,E,I,by go_num,ZT,Zf,Zs⟩
        · have Zf:U ((∀k,k<a+1->O b k=if 0<O bb k then 100 else 0) /\ ∀k,a+1<=k->O b k=0):=by
            refine⟨λ k ZR=>?_,λ k ZR=>Z0.o.2 k E⟩;by_cases Z5:a=k
            · subst Z5;rw[Q.o,aF Yp];exact Z0.o.2 a aZ
            · exact Z0.o.1 k E
          clear Z0 Q
          go_wp2
          go_roundg (f-(a+1))
          case measure=>omega
          case rel=>exact⟨a+1,b,E,I,by go_num,c,Zf,u⟩
      · have X6:a=f:=E;have n:U (dU f s (O bb) b (bE f 0) (λ _=>0) (λ _=>0)):=dU.start s YV c.o.pf.len ar (λ m K=>Z0.o.1 m E) (λ g _=>eF _ _);subst X6;clear Z0 w Zm;go_wp2;clear W Y6 ZQ;obtain⟨XM,rfl⟩:∃Z9:af,Z9=wr:=⟨_,I⟩;go_loopg [5] (2*(dS b+dS (bE a 0))+1) (λ ZF ZN wr=>∃(p:a8) (b XJ:aU F) (D G:J->J),ZN=aw p /\ U (2*(dS b+dS XJ)+p.toNat<=ZF) /\ U (hc (⟨T,V,Z6,a,A,r,Z1,ZS,x,z⟩:hD) wr Z8 bb b XJ) /\ U (dU a s (O bb) b XJ D G) /\ U (p=ak->∀m g,m<a->g<a->iw s b XJ m g) /\ Below r i wr)
        case atStart=>exact⟨ae,b,_,_,_,I,bL _,c,n,(λ j=>by cases j),u⟩
        case round =>
          clear c n u;obtain⟨p,b,XJ,D,G,rfl,y,c,n,Zw,u⟩:=hrel;have ZQ: wr.cell? ⟨ZS,0,aj⟩=Z (aa (Z ⟨x,0,aj⟩) a a):=c.o.v0;have Zk: wr.cell? ⟨ZS,1,aj⟩=Z (aa (Z ⟨z,0,aj⟩) a a):=c.o.v1;cases p with
          | false =>
            have Zi: wr.cell? ⟨r+1,0,aj⟩=Z (aa aj 0 0):=c.o.z0
            have Zh: wr.cell? ⟨r+1,1,aj⟩=Z (aa aj 0 0):=c.o.z1
            have Zb: wr.frozen? ⟨r+1,0,aj⟩=ak:=c.o.g0
            have Za: wr.frozen? ⟨r+1,1,aj⟩=ak:=c.o.g1
            go_wp2
            refine aK (v:=ba #[aa (Z ⟨x,0,aj⟩) a a,aa (Z ⟨z,0,aj⟩) a a]) (by simp[aJ,results182,go_sem,Zi,Zh,Zb,Za]) I ?_
            have YU:=c.o.pf.block x I
            have YT:=c.o.pt.block z I
            have Ys:=Zv.o
            have X8:=ZB.o.BF
            have X7:=ZB.o.BT
            have X9:=ZB.o.AB
            simp only at X8 X7 X9
            have Yk:aA (r+1) (r+1+1) wr ((wr.setCell ⟨r+1,0,aj⟩ (aa (Z ⟨x,0,aj⟩) a a)).setCell ⟨r+1,1,aj⟩ (aa (Z ⟨z,0,aj⟩) a a)):=lr.trans lr
            have Ym:=fK c.o.pf Yk (by show x≠r+1;omega)
            have Yl:=fK c.o.pt Yk (by show z≠r+1;omega)
            refine⟨⟨x,z,b,XJ,D,G,I,by rw[Y5.o];exact Ys.1,by rw[Y5.o];exact Ys.2.1,(Ym.block x I).2,(Yl.block z I).2,λ k ZR=>(Ym.cellAt ZR).1,λ k ZR=>(Yl.cellAt ZR).1,n.o,by first | exact Zw.o rfl | exact Zw.o trivial⟩,?_⟩
            rw[Y5.o]
            exact Below.setCell (Below.setCell u (show r<=r+1 from E) _) (show r<=r+1 from E) _
          | true =>
            obtain⟨R,Yv⟩:∃R,dS b+dS XJ=R:=⟨_,I⟩
            have ZZ:U (2*R+1<=gk):=by have j:=y.o;rw[Yv] at j;exact j
            have YD:U (dS b+dS XJ<=R):=by rw[U];omega
            clear y Yv Zw ZQ Zk
            go_wp2
            obtain⟨XL,rfl⟩:∃Z9:af,Z9=wr:=⟨_,I⟩
            go_loopg [5,6] a (λ ZF ZN m wr=>∃(p:a8) (d:J) (b XJ:aU F) (D G:J->J),d<=a /\ ZF=a-d /\ ZN=aw p /\ m=.int .i64 d /\ U (dS b+dS XJ<=R /\ (p=ae->dS b+dS XJ<R)) /\ U (hc (⟨T,V,Z6,a,A,r,Z1,ZS,x,z⟩:hD) wr Z8 bb b XJ) /\ U (dU a s (O bb) b XJ D G) /\ U (p=ak->∀m g,m<d->g<a->iw s b XJ m g) /\ Below r i wr)
            case atStart=>exact⟨ak,0,b,XJ,D,G,E,E,I,I,⟨YD.o,(λ j=>by cases j)⟩,c,n,(λ _ m g K=>E),u⟩
            case round =>
              clear c n YD u;obtain⟨p,d,b,XJ,D,G,XR,rfl,rfl,rfl,y,c,n,ZC,u⟩:=hrel;have W: wr.cell? ⟨r,0,aj⟩=Z (.int .i64 a):=c.o.x0;by_cases w:d<a
              · have XQ:(0:F)<=(d:F):=E;have XP:(d:F)<(a:F):=E;have Z7:U (p=ak->(∀m g,m<d->g<a->iw s b XJ m g) /\ ∀g,g<0->iw s b XJ d g):= λ j=>⟨ZC.o j,λ g Zr=>E⟩
                go_wp2;clear W ZC;obtain⟨XK,rfl⟩:∃Z9:af,Z9=wr:=⟨_,I⟩;go_loopg [5,7] a (λ ZF ZN g wr=>∃(p:a8) (e:J) (b XJ:aU F) (D G:J->J),e<=a /\ ZF=a-e /\ ZN=aw p /\ g=.int .i64 e /\ U (dS b+dS XJ<=R /\ (p=ae->dS b+dS XJ<R)) /\ U (hc (⟨T,V,Z6,a,A,r,Z1,ZS,x,z⟩:hD) wr Z8 bb b XJ) /\ U (dU a s (O bb) b XJ D G) /\ U (p=ak->(∀m g,m<d->g<a->iw s b XJ m g) /\ ∀g,g<e->iw s b XJ d g) /\ Below r i wr)
                case atStart=>exact⟨p,0,b,XJ,D,G,E,E,I,I,y,c,n,Z7,u⟩
                case round =>
                  clear c n Z7 y u;obtain⟨p,e,b,XJ,D,G,XU,rfl,rfl,rfl,y,c,n,Z7,u⟩:=hrel;have W: wr.cell? ⟨r,0,aj⟩=Z (.int .i64 a):=c.o.x0;by_cases N:e<a
                  · have XT:(0:F)<=(e:F):=E;have XS:(e:F)<(a:F):=E;have ZQ: wr.cell? ⟨ZS,0,aj⟩=Z (aa (Z ⟨x,0,aj⟩) a a):=c.o.v0;have Zk: wr.cell? ⟨ZS,1,aj⟩=Z (aa (Z ⟨z,0,aj⟩) a a):=c.o.v1;have Zo:=(c.o.pf.cellAt w).1;have Zn:=(c.o.pt.cellAt N).1;have Zq:=n.o.bdF w;have Zp:=n.o.bdT N;obtain⟨H,Y⟩:∃H,O b d=H:=⟨_,I⟩;obtain⟨Z2,ZI⟩:∃Z2,O XJ e=Z2:=⟨_,I⟩;have Q:=ab Y;have ZO:=ab ZI;rw[Y] at Zo Zq;rw[ZI] at Zn Zp;have YR:=AA ⟨d,E⟩ ⟨e,E⟩;simp only at YR;obtain⟨Y8,YS⟩:∃Y8,bY e d=Y8:=⟨_,I⟩;have Y3:=ab YS;rw[YS] at YR;obtain⟨Z4,Yo⟩:∃Z4,(Y8&&decide (0<H)&&decide (Z2=0))=Z4:=⟨_,I⟩;have ZP:=ab Yo;clear Y ZI YS Yo;go_upto_region 16 with fail
                    go_cut [63] (λ YP Zx=>YP=aw Z4 /\ Zx=wr)
                    case first =>
                      cases Y8 with
                      | false =>
                        have ZU:U (Z4=ak):=by rw[U,<- ZP.o];rfl
                        go_wp2
                        go_meet
                        exact⟨by rw[ZU.o],I⟩
                      | true =>
                        by_cases q:0<H
                        · by_cases B:Z2=0
                          · have ZU:U (Z4=ae):=by rw[U,<- ZP.o];simp[q,B]
                            subst B;exact lT
                          · have ZU:U (Z4=ak):=by rw[U,<- ZP.o];simp[q,B]
                            have ZM:(Z2==0)=ak:=by rw[dx];exact B
                            exact lT
                        · have ZU:U (Z4=ak):=by rw[U,<- ZP.o];simp[q]
                          exact lT
                    case rest =>
                      obtain⟨rfl,rfl⟩:=hcut;clear YR W Zo Zn;obtain⟨X2,rfl⟩:∃Z9:af,Z9=wc:=⟨_,I⟩;have P:U (Z4=ae->bY e d=ae /\ 0<O b d /\ O XJ e=0):= λ j=>by
                        have q:=ZP.o;rw[j,<- Y3.o] at q;simp only[b9,hB] at q;exact⟨q.1.1,by rw[Q.o];exact q.1.2,by rw[ZO.o];exact q.2⟩
                      have Ze:U (Z4=ak->bY e d=ae->0<O b d->0<O XJ e):= λ j ZY S=>by
                        have q:=ZP.o;have B:=(n.o.bdT N).1;rw[j,<- Y3.o,ZY,fW (by rw[<- Q.o];exact S),eo,eo,decide_eq_false_iff_not,<- ZO.o] at q;omega
                      clear ZP Y3 Q ZO Zq Zp;go_upto_if 63 with fail
                      go_cut [5] (λ ZN Zx=>∃(ZA:a8) (v:aU F) (Zz Zy:J->J),ZN=aw ZA /\ U (dS b+dS v<=R /\ (ZA=ae->dS b+dS v<R)) /\ U (hc (⟨T,V,Z6,a,A,r,Z1,ZS,x,z⟩:hD) Zx Z8 bb b v) /\ U (dU a s (O bb) b v Zz Zy) /\ U (ZA=ak->v=XJ /\ p=ak) /\ U (bY e d=ae->0<O b d->0<O v e) /\ Below r i Zx)
                      case first =>
                        cases Z4 with
                        | false =>
                          go_wp2
                          go_meet
                          exact⟨p,XJ,D,G,I,y,c,n,(λ j=>⟨I,j⟩),(by first | exact Ze.o rfl | exact Ze.o trivial),u⟩
                        | true =>
                          obtain⟨ZY,S,ZX⟩:bY e d=ae /\ 0<O b d /\ O XJ e=0:=by first | exact P.o rfl | exact P.o trivial
                          obtain⟨Zz,Zy,Zl⟩:=n.o.getter N w ZY S ZX
                          obtain⟨Yi,Yh,_⟩:=c.o.pt.cellAt N
                          have ZT:=ab (c.o.setT ZB.o N ((d:F)+1))
                          have Y1:=uH XJ e ((d:F)+1) (by rw[n.o.lnT];exact N) ZX E
                          have ZZ:U (dS b+dS (XJ.set e ((d:F)+1))<R):=by
                            have j:=y.o.1;rw[U];omega
                          have YG:U (0<O (XJ.set e ((d:F)+1)) e):=by rw[U,cO,a7 ⟨rfl,by rw[n.o.lnT];exact N⟩];omega
                          have Zs:Below r i (X2.setCell ⟨z,e,aj⟩ (.int .i64 ((d:F)+1))):=u.setCell Zv.o.2.1 _
                          have Zu:=ab Zl
                          generalize XJ.set e ((d:F)+1)=v at ZT ZZ YG Zu
                          clear Zl Y1 ZY S ZX c n P Ze
                          go_wp2
                          go_meet
                          exact⟨ae,v,Zz,Zy,I,⟨h3 ZZ.o,λ _=>ZZ.o⟩,ZT,Zu,(λ j=>by cases j),(λ _ _=>YG.o),Zs⟩
                      case rest =>
                        clear c n y ZQ Zk u P Ze;obtain⟨ZA,v,Zz,Zy,rfl,y,c,n,Y4,Y2,u⟩:=hcut;obtain⟨YO,rfl⟩:∃Z9:af,Z9=wc:=⟨_,I⟩;have W: YO.cell? ⟨r,0,aj⟩=Z (.int .i64 a):=c.o.x0;have Y7: YO.cell? ⟨r,1,aj⟩=Z (aa (Z ⟨T,0,aj⟩) A A):=c.o.x1;have ZQ: YO.cell? ⟨ZS,0,aj⟩=Z (aa (Z ⟨x,0,aj⟩) a a):=c.o.v0;have Zk: YO.cell? ⟨ZS,1,aj⟩=Z (aa (Z ⟨z,0,aj⟩) a a):=c.o.v1;have Zo: YO.cell? ⟨x,d,aj⟩=Z (.int .i64 (O b d)):=(c.o.pf.cellAt w).1;have Zn: YO.cell? ⟨z,e,aj⟩=Z (.int .i64 (O v e)):=(c.o.pt.cellAt N).1;have Zq:=n.o.bdF w;have Zp:=n.o.bdT N;obtain⟨XZ,Y0,ZY,S,ZX,Yd,YK⟩:=o4 YV YH.o w N;have Yu: YO.cell? ⟨T,Y0,aj⟩=Z (.int .i64 (O Z8 Y0)):=c.o.f Y0 ZX;have Zg:U (O Z8 Y0=s d e):=by rw[U,<- YK.o];exact Yf.o.2 d e w N
                        obtain⟨H,Y⟩:∃H,O b d=H:=⟨_,I⟩;obtain⟨Z2,ZI⟩:∃Z2,O v e=Z2:=⟨_,I⟩;obtain⟨Zj,Yj⟩:∃Zj,O Z8 Y0=Zj:=⟨_,I⟩;have Q:=ab Y;have ZO:=ab ZI;rw[Y] at Zo Zq;rw[ZI] at Zn Zp;rw[Yj] at Yu Zg;obtain⟨Z3,Yn⟩:∃Z3,(decide (0<Z2)&&decide (H=0)&&decide (0<Zj))=Z3:=⟨_,I⟩;have P:=ab Yn;clear Y ZI Yj Yn;go_upto_region 19 with fail
                        go_cut [96] (λ YP Zx=>YP=aw Z3 /\ Zx=YO)
                        case first =>
                          by_cases q:0<Z2
                          · by_cases B:H=0
                            · by_cases ZM:0<Zj
                              · have ZU:U (Z3=ae):=by rw[U,<- P.o];simp[q,B,ZM]
                                subst B;exact lT
                              · have ZU:U (Z3=ak):=by rw[U,<- P.o];simp[q,B,ZM]
                                subst B;exact lT
                            · have ZU:U (Z3=ak):=by rw[U,<- P.o];simp[q,B]
                              have ZM:(H==0)=ak:=by rw[dx];exact B
                              exact lT
                          · have ZU:U (Z3=ak):=by rw[U,<- P.o];simp[q]
                            exact lT
                        case rest =>
                          obtain⟨rfl,rfl⟩:=hcut;clear W Y7 ZQ Zk Zo Zn Yu;obtain⟨X1,rfl⟩:∃Z9:af,Z9=wc:=⟨_,I⟩;have Zd:U (Z3=ae->0<O v e /\ O b d=0 /\ 0<s d e):= λ j=>by
                            have q:=P.o;rw[j] at q;simp only[b9,hB] at q;exact⟨by rw[ZO.o];exact q.1.1,by rw[Q.o];exact q.1.2,by rw[<- Zg.o];exact q.2⟩
                          have Zc:U (Z3=ak->0<O v e->0<s d e->0<O b d):= λ j Yc Yb=>by
                            have q:=P.o;have B:=(n.o.bdF w).1;rw[j,fW (by rw[<- ZO.o];exact Yc),fW (p:=0<Zj) (by rw[Zg.o];exact Yb),eo,Bool.and_true,decide_eq_false_iff_not,<- Q.o] at q;omega
                          clear P Q ZO Zg Zq Zp ZY S ZX Yd YK;cases Z3 with
                          | false =>
                            have YL:U (0<O v e->0<s d e->0<O b d):=by first | exact Zc.o rfl | exact Zc.o trivial
                            have Yg:U (ZA=ak->(∀m g,m<d->g<a->iw s b v m g) /\ ∀g,g<e+1->iw s b v d g):= λ j=>by
                              obtain⟨rfl,ZM⟩:=Y4.o j;refine⟨(Z7.o ZM).1,λ g Zr=>?_⟩;by_cases Z5:g=e
                              · subst Z5;exact⟨Y2.o,YL.o⟩
                              · exact(Z7.o ZM).2 g E
                            clear Y4 Y2 YL Z7 Zd Zc
                            go_wp2
                            go_roundg (a-(e+1))
                            case measure=>omega
                            case rel=>exact⟨ZA,e+1,b,v,Zz,Zy,E,I,I,by go_num,y,c,n,Yg,u⟩
                          | true =>
                            obtain⟨ZY,S,ZX⟩:0<O v e /\ O b d=0 /\ 0<s d e:=by first | exact Zd.o rfl | exact Zd.o trivial
                            have Zl:=n.o.giver N w ZY S ZX
                            obtain⟨Yi,Yh,_⟩:=c.o.pf.cellAt w
                            have ZQ: X1.cell? ⟨ZS,0,aj⟩=Z (aa (Z ⟨x,0,aj⟩) a a):=c.o.v0
                            have ZT:=ab (c.o.setF ZB.o w ((e:F)+1))
                            have Y1:=uH b d ((e:F)+1) (by rw[n.o.lnF];exact w) S E
                            have ZZ:U (dS (b.set d ((e:F)+1))+dS v<R):=by
                              have j:=y.o.1;rw[U];omega
                            have Zs:Below r i (X1.setCell ⟨x,d,aj⟩ (.int .i64 ((e:F)+1))):=u.setCell Zv.o.1 _
                            have Zu:=ab Zl
                            generalize b.set d ((e:F)+1)=YQ at ZT ZZ Zu
                            clear Zl Y1 ZY S ZX c n Zd Zc Y4 Y2 Z7 y
                            go_wp2
                            go_roundg (a-(e+1))
                            case measure=>omega
                            case rel=>exact⟨ae,e+1,YQ,v,Zz,Zy,E,I,I,by go_num,⟨h3 ZZ.o,λ _=>ZZ.o⟩,ZT,Zu,(λ j=>by cases j),Zs⟩
                  · have X5:e=a:=E;have ZC:U (p=ak->∀m g,m<d+1->g<a->iw s b XJ m g):= λ j m g K Zr=>by
                      by_cases Z5:m=d
                      · subst Z5;exact(Z7.o j).2 g E
                      · exact(Z7.o j).1 m g E Zr
                    clear Z7;go_wp2;go_roundg (a-(d+1))
                    case measure=>omega
                    case rel=>exact⟨p,d+1,b,XJ,D,G,E,I,I,by go_num,y,c,n,ZC,u⟩
              · have X5:d=a:=E;have Zw:U (p=ak->∀m g,m<a->g<a->iw s b XJ m g):= λ j m g K Zr=>ZC.o j m g E Zr
                have Ye:U (2*(dS b+dS XJ)+p.toNat<gk):=by
                  have q:=ZZ.o;have B:=y.o;cases p with
                  | false=>rw[U];simp only[Bool.toNat_false];omega
                  | true=>rw[U];have:=B.2 I;simp only[Bool.toNat_true];omega
                clear ZC y;go_wp2;go_roundg (2*(dS b+dS XJ)+p.toNat)
                case measure=>exact Ye.o
                case rel=>exact⟨p,b,XJ,D,G,I,bL _,c,n,Zw,u⟩
theorem GQ {c:J->F} {b:J} (d:∀a,a<b->0<=c a) (f:bu c b<=0):∀a,a<b->c a=0:= λ a e=>by
 have g:=oH d e;have h:=d a e;omega
theorem LM {a:J} {e d h g:J->F} {c:J->J->F} (i:dV bY a e d c h g) (o:bu e a=bu d a):bu h a=bu g a:=by
 have l:bu e a=bu (λ b=>bu (c b) a) a+bu h a:=by rw[<- o2];exact jo λ b k=>(i.row b k).symm
 have m:bu d a=bu (λ f=>bu (λ b=>c b f) a) a+bu g a:=by rw[<- o2];exact jo λ f j=>(i.col f j).symm
 have n:bu (λ b=>bu (c b) a) a=bu (λ f=>bu (λ b=>c b f) a) a:=ud c a a;omega
theorem Mx {b:J} {h g:J->F} {i:J->J->F} {bb e m j:ac} {u v:J->J} (c:dV bY b h g i (O bb) (O e)) (l:bu h b=bu g b) (r:dU b i (O bb) m j u v) (p:∀k a,k<b->a<b->iw i m j k a) (s:∀d,d<b->O j d=0 \/ O e d=0):
  (∀a,a<b->O e a<=0)↔jb bY b h g:=by
 constructor
 ·intro n;have o:∀a,a<b->O e a=0:= λ a f=>by have:=n a f;have:=c.du0 a f;omega
  have y:=ks o;exact Am c (GQ c.lf0 (by have:=LM c l;omega))
 ·intro q a f;refine jJ λ w=>?_
  exact r.stuck c l p (λ d t x=>(s d t).resolve_left E) f E q
def Of (a c m n f k j:J) (i h:J->F) (l:Ending) (g:af):Prop :=
 ∃d:ac,l=aV (ba #[M a,aq m c c,aq n a k,aq f a j]) /\ (∀b,b<a-> g.cell? (ad f b)=Z (M (O d b))) /\ ((∀e,e<a->O d e<=0)↔jb bY a i h)
structure iT (N NN gF gL gD cL cD lo hi A:J) (w W:af) (FL bb TO:ac):Prop where
 x0: W.cell? (ad A 0)=Z (M N)
 x1: W.cell? (ad A 1)=Z (aq gF NN NN)
 x2: W.cell? (ad A 2)=Z (aq gL N cL)
 x3: W.cell? (ad A 3)=Z (aq gD N cD)
 fx: W.frozen? (ad A 0)=ak /\ W.frozen? (ad A 1)=ak /\ W.frozen? (ad A 2)=ak /\ W.frozen? (ad A 3)=ak
 z:(W.cell? (ad (A+1) 0)=Z (M 0) /\ W.cell? (ad (A+1) 1)=Z (aa aj 0 0) /\ W.cell? (ad (A+1) 2)=Z (aa aj 0 0) /\ W.cell? (ad (A+1) 3)=Z (aa aj 0 0)) /\ W.frozen? (ad (A+1) 0)=ak /\ W.frozen? (ad (A+1) 1)=ak /\ W.frozen? (ad (A+1) 2)=ak /\ W.frozen? (ad (A+1) 3)=ak
 hz:A+1<W.heap.size
 f:av W lo (aq gF NN NN) FL
 l:av W lo (aq gL N cL) bb
 d:av W lo (aq gD N cD) TO
 s:aA lo hi w W
theorem iT.below {f g m n l k j p o d:J} {q i c:af} {e bb h:ac} (b:iT f g m n l k j p o d q i e bb h) (a:ap i c):iT f g m n l k j p o d q c e bb h:=by
 obtain⟨z,A,B,C⟩:=b.fx;obtain⟨⟨r,s,t,u⟩,v,w,x,y⟩:=b.z;exact⟨ag a b.x0,ag a b.x1,ag a b.x2,ag a b.x3,⟨aB a b.x0 z,aB a b.x1 A,aB a b.x2 B,aB a b.x3 C⟩,⟨⟨ag a r,ag a s,ag a t,ag a u⟩,aB a r v,aB a s w,aB a t x,aB a u y⟩,cm b.hz a.size,b.f.below a,b.l.below a,b.d.below a,b.s.trans (aA.of_below a)⟩
theorem iT.pushed {i j n o m l k e h g:J} {t s f:af} {y bb z p q r:ac} (b:iT i j n o m l k e h g t s y bb z) (H:h<=g) (a:aA e h s f) (B:av f e (aq n j j) p) (I:av f e (aq o i l) q) (A:av f e (aq m i k) r):iT i j n o m l k e h g t f p q r:=by
 obtain⟨K,L,M,N⟩:=b.fx;obtain⟨⟨u,v,w,x⟩,C,D,F,G⟩:=b.z;have c:g<e \/ h<=g:=aP H;have d:g+1<e \/ h<=g+1:=aP E;exact⟨a.keep b.x0 c,a.keep b.x1 c,a.keep b.x2 c,a.keep b.x3 c,⟨gM a b.x0 K c,gM a b.x1 L c,gM a b.x2 M c,gM a b.x3 N c⟩,⟨⟨a.keep u d,a.keep v d,a.keep w d,a.keep x d⟩,gM a u C d,gM a v D d,gM a w F d,gM a x G d⟩,cm b.hz a.size,B,I,A,b.s.trans a⟩
theorem Ka (b:af) (a:J) {o k g f:ay} (t: b.cell? (ad a 0)=Z o) (u: b.cell? (ad a 1)=Z k) (v: b.cell? (ad a 2)=Z g) (w: b.cell? (ad a 3)=Z f):
  ∀c d,b.cell? (ad a c)=Z d->((((b.setCell (ad a 0) o).setCell (ad a 1) k).setCell (ad a 2) g).setCell (ad a 3) f).cell? (ad a c)=Z d:=by
 have j:∀(b:af) (i:J) (n:ay),b.cell? (ad a i)=Z n->∀c d,b.cell? (ad a c)=Z d->(b.setCell (ad a i) n).cell? (ad a c)=Z d:= λ b i n r c d e=>by
  by_cases q:i=c
  ·subst q;rw[r] at e;injection e with e;subst e;exact fZ _ _ _ r
  ·exact(c3 _ _ _ _ (by intro m;injection m with _ m;exact q m)).trans e
 intro c d e;have h:=j b 0 o t;have l:=j _ 1 k (h 1 k u);have p:=j _ 2 g (l 2 g (h 2 g v));have s:=j _ 3 f (p 3 f (l 3 f (h 3 f w)));exact s c d (p c d (l c d (h c d e)))
theorem iT.again {d e i j h m l u k a:J} {r g:af} {s bb t:ac} (b:iT d e i j h m l u k a r g s bb t) (D:k<=a) (p:r.heap.size<=a) (G:i<k) (H:j<k) (F:h<k):
  iT d e i j h m l u k a r ((((g.setCell (ad a 0) (M d)).setCell (ad a 1) (aq i e e)).setCell (ad a 2) (aq j d m)).setCell (ad a 3) (aq h d l)) s bb t:=by
 obtain⟨⟨v,w,x,y⟩,z,A,B,C⟩:=b.z;have n:=Ka g a b.x0 b.x1 b.x2 b.x3;have c:=mi g a (M d) (aq i e e) (aq j d m) (aq h d l);have f:a+1<a \/ a+1<=a+1:=aP aZ;have o:∀q,((((g.setCell (ad a 0) (M d)).setCell (ad a 1) (aq i e e)).setCell (ad a 2) (aq j d m)).setCell (ad a 3) (aq h d l)).frozen? (ad a q)= g.frozen? (ad a q):= λ q=>ar
 refine⟨n 0 _ b.x0,n 1 _ b.x1,n 2 _ b.x2,n 3 _ b.x3,?_,⟨⟨c.keep v f,c.keep w f,c.keep x f,c.keep y f⟩,gM c v z f,gM c w A f,gM c x B f,gM c y C f⟩,cm b.hz c.size,fK b.f c E,fK b.l c E,fK b.d c E,?_⟩
 ·rw[o,o,o,o];exact b.fx
 ·exact b.s.on ((((Below.setCell bA p _).setCell p _).setCell p _).setCell p _)
theorem My {b l:af} {a c g h f e d j r:J} {m bb n:ac} (k:(b.alloc (al #[M a,aq g c c,aq h a e,aq f a d] 94)).alloc (al #[M 0,aa aj 0 0,aa aj 0 0,aa aj 0 0] 94)=l)
  (q:av b j (aq g c c) m) (s:av b j (aq h a e) bb) (p:av b j (aq f a d) n):iT a c g h f e d j r b.heap.size b l m bb n:=by
 have i:ap b l:=by rw[<- k];exact aD
 have o:=o5 (W:=b.alloc (al #[M a,aq g c c,aq h a e,aq f a d] 94)) (A:=b.heap.size+1) 94 (M 0) (aa aj 0 0) (aa aj 0 0) (aa aj 0 0) ar;rw[k] at o;refine⟨?_,?_,?_,?_,⟨?_,?_,?_,?_⟩,o,?_,q.below i,s.below i,p.below i,aA.of_below i⟩;all_goals rw[<- k];simp
theorem Kb (a d g Yn f p o q m:J) (x t:J->F) (n bb e:ac) (r:J->J->F) (k:af) (ZC:a<=16) (ZB:d=a*a) (Zw:g≠Yn) (Zv:g≠f) (Zu:Yn≠f) (Zp:q<=g /\ g<m) (Zo:q<=Yn /\ Yn<m) (Zq:q<=f /\ f<m) (ZY:m<=k.heap.size)
  (Zh:av k q (aq g d d) n) (Zf:av k q (aq Yn a p) bb) (Zj:av k q (aq f a o) e) (Zt:dV bY a x t r (O bb) (O e)) (Zs:gU a n r)
  (ZD:∀N,N<a->x N<=1000000000000) (ZE:∀N,N<a->t N<=1000000000000) (Zm:bu x a=bu t a):
  aY prog 83 #[ba #[M a,aq g d d,aq Yn a p,aq f a o]] k λ y ZP=>Of a d g Yn f p o x t y ZP /\ aA q m k ZP:=by
 have ZJ:=ab ZB;have v:=ab Zt;have A:=ab Zs;have Y6:=ab ZD;have Za:=ab ZE;have Y4:=ab Zm;have Z7:=ab (gC Zw (gC Zv Zu));have ZN:U (∀S,(k.alloc (al #[M a,aq g d d,aq Yn a p,aq f a o] 94)).alloc (al #[M 0,aa aj 0 0,aa aj 0 0,aa aj 0 0] 94)=S->iT a d g Yn f p o q m k.heap.size k S n bb e):= λ S YW=>My YW Zh Zf Zj
 clear ZB Zt Zs ZD ZE Zm Zw Zv Zu Zh Zf Zj;go_enter func83,ntmps83;go_wp2;obtain⟨S,ZW⟩:∃Z4,(k.alloc (al #[M a,aq g d d,aq Yn a p,aq f a o] 94)).alloc (al #[M 0,aa aj 0 0,aa aj 0 0,aa aj 0 0] 94)=Z4:=⟨_,I⟩;have i:=ab (ZN.o S ZW);rw[ZW];clear ZW ZN;obtain⟨H,Z1⟩:∃H,k.heap.size=H:=⟨_,I⟩;have ZO:=ab Z1;rw[Z1] at i ZY ⊢;clear Z1;go_loopg [] (bu (O bb) a).toNat (λ ZU wr=>∃(n bb e:ac) (r:J->J->F),U (iT a d g Yn f p o q m H k wr n bb e) /\ U (dV bY a x t r (O bb) (O e)) /\ U (gU a n r) /\ U ((bu (O bb) a).toNat<=ZU))
 case atStart=>exact⟨n,bb,e,r,i,v,A,bL _⟩
 case round =>
  clear i v A;obtain⟨n,bb,e,r,i,v,A,Z6⟩:=hrel;have ZT:=i.o.x0;have ZS:=i.o.x1;have ZR:=i.o.x2;have ZQ:=i.o.x3;have YK:=i.o.hz;go_wp2_with fail;refine(IE a d g Yn f p o n bb r wr ZC ZJ.o (λ b s=>(i.o.f.cellAt s).1) (λ b s=>(i.o.l.cellAt s).1) E E A.o).mono ?_;rintro y G ⟨⟨C,D,Zk,z,YJ,YI,rfl,YS,YQ,YR,YP,Zy,Zx,ZA,ZF⟩,Z0⟩;have Z5:=ab ZA;have Zc:=ab ZF;have ZM:=ab Zy;have ZL:=ab Zx;have ZH:=ab (i.o.below Z0);clear ZA ZF Zy Zx ZT ZS ZR ZQ i;go_wp2_with fail;obtain⟨l,B⟩:∃Z4,G.alloc (al #[aq C a a,aq D a a] 134)=Z4:=⟨_,I⟩;have W:ap G l:=by rw[<- B];exact az _ _
  have YH: l.cell? (ad G.heap.size 0)=Z (aq C a a):=by rw[<- B];simp
  have YG: l.cell? (ad G.heap.size 1)=Z (aq D a a):=by rw[<- B];simp
  have YL:G.heap.size<l.heap.size:=by rw[<- B];simp
  have j:=ab (ZH.o.below W);have Zb:U (∀b,b<a-> l.cell? (ad C b)=Z (M (O Zk b))):= λ b s=>ag W (ZM.o b s)
  have ZK:U (∀b,b<a-> l.cell? (ad D b)=Z (M (O z b))):= λ b s=>ag W (ZL.o b s)
  rw[B];clear B ZH ZM ZL W;have ZT:=j.o.x0;have ZS:=j.o.x1;have ZR:=j.o.x2;have ZQ:=j.o.x3;have R:U (m<=C /\ m<=D /\ m<=l.heap.size /\ C<l.heap.size /\ D<l.heap.size):=by
   have:=Z0.size;exact⟨E,E,E,E,E⟩
  obtain⟨ZG,Zz⟩:∃ZG,G.heap.size=ZG:=⟨_,I⟩;rw[Zz] at YH YG YL ⊢;clear Zz Z0 YS YQ YR YP YK;go_loopg [4] a (λ ZU V YF=>l=YF /\ ∃b:J,b<=a /\ ZU=a-b /\ V=M b /\ U (∀c,c<b->O z c=0 \/ O e c=0))
  case atStart=>exact⟨I,0,E,E,I,λ c P=>E⟩
  case round =>
   obtain⟨YM,b,s,rfl,rfl,u⟩:=hrel;subst YM;by_cases Q:b<a
   ·have Yv:(0:F)<=(b:F):=E;have Yu:(b:F)<(a:F):=E;have YV:=ZK.o b Q;have YU:=(j.o.d.cellAt Q).1;have YO:=Z5.o.bdT Q;have YN:=v.o.du0 b Q;obtain⟨Z9,ZV⟩:∃Z9,O z b=Z9:=⟨_,I⟩;obtain⟨Y,ZX⟩:∃Y,O e b=Y:=⟨_,I⟩;have L:=ab ZV;have K:=ab ZX;rw[ZV] at YV YO;rw[ZX] at YU YN;clear ZV ZX;by_cases Z3:Z9=0
    ·have Z8:U (∀c,c<b+1->O z c=0 \/ O e c=0):= λ c P=>by
      by_cases y:c=b
      ·subst y;exact bj (L.o.trans Z3)
      ·exact u.o c E
     subst Z3
     clear u L K
     go_wp2
     go_roundg (a-(b+1))
     case measure=>omega
     case rel=>exact⟨I,b+1,E,I,by go_num,Z8⟩
    ·have Yz:(Z9==0)=ak:=by rw[dx];exact Z3
     by_cases Z2:Y=0
     ·have Z8:U (∀c,c<b+1->O z c=0 \/ O e c=0):= λ c P=>by
       by_cases y:c=b
       ·subst y;exact aP (K.o.trans Z2)
       ·exact u.o c E
      subst Z2
      clear u L K
      go_wp2
      go_roundg (a-(b+1))
      case measure=>omega
      case rel=>exact⟨I,b+1,E,I,by go_num,Z8⟩
     ·have Yy:(Y==0)=ak:=by rw[dx];exact Z2
      have Yt:((b:F)==(a:F))=ak:=by rw[dx];omega
      have ZI:U (0<O z b /\ 0<O e b):=by rw[U,L.o,K.o];omega
      clear u L K;go_wp2_with fail;refine(JI (⟨g,Yn,f,p,o,a,d,C,D,a,a,q,m,l.heap.size⟩:kg) n bb e Zk z r x t YJ YI b l ?_ I ⟨R.o.2.2.2.1,R.o.2.2.2.2⟩ j.o.f j.o.l j.o.d Zb.o ZK.o v.o A.o Y6.o Za.o Z5.o Q ZI.o.1 ZI.o.2).mono ?_
      ·exact⟨ZC,ZJ.o,Z7.o.1,Z7.o.2.1,Z7.o.2.2,Zp,Zo,Zq,R.o.1,R.o.2.1,R.o.2.2.1⟩
      rintro y Ys ⟨rfl,Zl,Zd,T,Y2,Zg,Ze,Zi,⟨Y1,ZZ,Zr⟩,Zn⟩;have w:=ab (j.o.pushed ZY Zl Zg Ze Zi);have Y8:U (dV bY a x t Y1 (O T) (O Y2)):=ZZ;have Y7:U (gU a Zd Y1):=Zr;have Y5:U ((bu (O T) a).toNat <gk):=by
       have YA:=mr (f:=O T) (n:=a) ZZ.lf0;have Yx:=Z6.o;have Yw:bu (O T) a<bu (O bb) a:=Zn;rw[U];omega
      obtain⟨Yr,Yq,Yp,Yo⟩:=w.o.fx;have ZT:=w.o.x0;have ZS:=w.o.x1;have ZR:=w.o.x2;have ZQ:=w.o.x3;have Y3:=ab (w.o.again ZY (Nat.le_of_eq ZO.o) Zp.2 Zo.2 Zq.2);clear Zl Zg Ze Zi ZZ Zr Zn w j v A Z6;go_wp2;go_roundg ((bu (O T) a).toNat)
      case measure=>exact Y5.o
      case rel=>exact⟨Zd,T,Y2,Y1,Y3,Y8,Y7,bL _⟩
   ·have YT:b=a:=E;have Y9:U ((∀V,V<a->O e V<=0)↔jb bY a x t):=Mx v.o Y4.o Z5.o Zc.o (λ c P=>u.o c E);subst YT;obtain⟨⟨YE,YD,YC,YB⟩,Y0,YZ,YY,YX⟩:=j.o.z;clear u Z6;go_wp2;refine aK (v:=ba #[M b,aq g d d,aq Yn b p,aq f b o]) (by simp[aJ,results83,go_sem,YE,YD,YC,YB,Y0,YZ,YY,YX]) I ?_;refine⟨⟨e,I,λ c P=>((fK j.o.d (mi l (H+1) _ _ _ _) E).cellAt P).1,Y9.o⟩,?_⟩;have X:k.heap.size<=H+1:=by rw[ZO.o];omega
    exact j.o.s.on ((((Below.setCell bA X _).setCell X _).setCell X _).setCell X _)
end Go.Proofs.YtkjnhlpccgjfhaaGreatDoor
