/- A part of the proof: lemmas (my texts, shortened by a program of mine). -/
import Derived.Deep.OwnRows
import Derived.Test.YtkjnhlpccgjfhaaGreatDoorC10
set_option linter.all false
set_option maxRecDepth 100000
set_option maxHeartbeats 4000000
namespace Go.Proofs.YtkjnhlpccgjfhaaGreatDoor
open Go.RowKit
open Go.Proofs.Tryz
open Bool renaming and_eq_true->b9,false->ak,true->ae,true_and->eo
open Go renaming Oper->bD,Value->ay,World->af,bodyPost_ret->aK,results->aJ
open Go.Obj renaming cells->al
open Go.Value renaming agg->ba,bool->aw,slice->aa,tuple->aL
open Go.World renaming cell?_alloc_lt->fr,ownsRow_lit->fF
open Go.World.ownsRow renaming cells->iN,lt->fs
open List renaming getD_eq_getElem?_getD->jH,getElem?_eq_getElem->fV,length_append->dm
open Nat renaming le_trans->ez
open Option renaming none->aj,some->Z
open Or renaming inl->bj,inr->aP
open _root_ renaming Array->bg,Bool->a8,Int->F,List->aU,Nat->J,beq_iff_eq->cR,if_neg->aF,if_pos->a7,rfl->I
variable {p q:Prop}
def fC (a:F) (c:ac) (b:F) (d:ac):bc :=
 if (cU ak a c).ok&&(cU ae b d).ok then ck (λ e f=>e&&&f) (cU ak a c).size (cU ak a c).parts (cU ae b d).size (cU ae b d).parts else bc.no
theorem BW {a:F} {c:ac} (b:(bh a c).ok=ae):(bh a c).size=a /\ aI a (bh a c).parts=ae:=by
 unfold bh at *;split at b
 ·cases b
 ·rename_i e;rw[aF e];split at b
  ·rename_i d;rw[a7 d];exact⟨I,d⟩
  ·cases b
theorem BX {c:a8} {b:F} {d:ac} (a:(cU c b d).ok=ae):(cU c b d).size=4 /\ aI 4 (cU c b d).parts=ae:=by
 unfold cU at *;split at a
 ·rename_i e;rw[a7 e];unfold fa at *;split at a
  ·rename_i f;rw[a7 f];exact BW a
  ·cases a
 ·cases a
theorem MN {b:J->J->J} {a:F} {e:ac} {d:F} {f:ac} (c:(ck b a e d f).ok=ae):(ck b a e d f).size=a /\ aI a (ck b a e d f).parts=ae:=by
 unfold ck at *;split at c
 ·rename_i g;rw[a7 g];exact BW c
 ·cases c
def il (a:F) (b:ac) (e:F) (f:ac):bc :=
 if (cU ak a b).ok then (if (ck (λ c d=>c&&&d) (cU ak a b).size (cU ak a b).parts e f).ok then cf ae (ck (λ c d=>c&&&d) (cU ak a b).size (cU ak a b).parts e f).size (ck (λ c d=>c&&&d) (cU ak a b).size (cU ak a b).parts e f).parts else bc.no) else bc.no
theorem Mo {s:F} {xs:ac} {a:F} {b:ac} (c:(aI a b&&(a==4))=ak):il s xs a b=bc.no:=by
 unfold il;cases e:(cU ak s xs).ok
 ·rfl
 ·have d:=BX e;have f:cJ (cU ak s xs).size (cU ak s xs).parts a b=ak:=by
   unfold cJ;rw[d.1,d.2];cases g:aI a b
   ·rfl
   ·rw[g,eo] at c;rw[eo,eo];simp at c ⊢;omega
  rw[oO f];rfl
def lz (b:F) (a:ac):a8 :=
 (cf ak b a).ok&&((cf ae b a).ok&&((fC (cf ak b a).size (cf ak b a).parts (cf ae b a).size (cf ae b a).parts).ok&&dR (fC (cf ak b a).size (cf ak b a).parts (cf ae b a).size (cf ae b a).parts).parts a))
theorem z8 (x s:F) (G A:aG) (N R C H:J) (y z:ac) (i:af) (Z4:an i G N y) (Z3:an i A C z):
  bp 135 #[am x G N R,am s A C H] i (fC x y s z):=by
 have Z7:Below i.heap.size i (((i.alloc (al #[M x,aa G N R] 29)).alloc (al #[M s,aa A C H] 29)).alloc (al #[M 0,aa aj 0 0] 29)):=((az i _).alloc ar _).alloc bO _;obtain⟨l,P⟩:∃O,U (cU ak x y=O):=⟨_,I⟩;obtain⟨o,Q⟩:∃O,U (cU ae s z=O):=⟨_,I⟩;have D:U (fC x y s z=if l.ok&&o.ok then ck (λ u v=>u&&&v) l.size l.parts o.size o.parts else bc.no):=by rw[<- P.o,<- Q.o];rfl
 go_enter func135,ntmps135;go_wp2_with fail;refine(zP _ _ _ _ y _ (Z4.below Z7)).mono ?_;rw[P.o];rintro ZK t ⟨⟨n,rfl,X⟩,w⟩;obtain⟨Z9,Z2,Z8,rfl,K⟩:=X.ints;obtain⟨b,c,d,e⟩:=cj (i.heap.size+1+1) w ar;have ZX:=aS w (i.heap.size+1) 0 (M s);have ZW:=aS w (i.heap.size+1) 1 (aa A C H);have S:ap i t:=bJ w;have Z:i.heap.size+1+1<t.heap.size:=b6 b;clear w X;go_wp2_with fail;refine(E1 _ _ _ _ z _ ((Z3.below S).below aD)).mono ?_;rw[Q.o];rintro ZK f ⟨⟨n,rfl,Y⟩,B⟩;obtain⟨Z1,ZT,Z0,rfl,Z6⟩:=Y.ints;have Z5:=aS B t.heap.size 0 (M l.size);have ZY:=aS B t.heap.size 1 (aa Z9 Z2 Z8);have a:ap t f:=bJ B;replace d:=aB a b d;replace e:=aB a c e;replace b:=ag a b;replace c:=ag a c;replace K:=K.below a;have V:=au S a;have ZV:=V.size;have ZU:t.heap.size<f.heap.size:=b6 Z5;clear B Y a;cases L:l.ok
 ·go_wp2;refine aK (v:=aL #[am 0 aj 0 0,aw ak]) (by simp[aJ,results135,go_sem,b,c,Z,fr]) I ⟨?_,?_⟩
  ·rw[D.o,L];exact b1.no _ _
  ·exact aD
 ·cases W:o.ok
  ·go_wp2;refine aK (v:=aL #[am 0 aj 0 0,aw ak]) (by simp[aJ,results135,go_sem,b,c,Z,fr]) I ⟨?_,?_⟩
   ·rw[D.o,L,W];exact b1.no _ _
   ·exact aD
  ·go_wp2_with fail;refine(tt _ _ _ _ _ _ _ _ l.parts o.parts _ (K.below aD) (Z6.below aD)).mono ?_;refine op ?_;intro k q p r g j m a;refine kW ?_;intro d e b c;have ZZ:=au V a;replace g:=g.mono (base':=f.heap.size) bO;clear j a;go_wp2;refine aK (v:=aL #[ba #[M (ck (λ u v=>u&&&v) l.size l.parts o.size o.parts).size,aa q p r],aw (ck (λ u v=>u&&&v) l.size l.parts o.size o.parts).ok]) (by simp[aJ,results135,go_sem,b,c]) I ⟨?_,?_⟩
   ·rw[D.o,L,W];exact⟨_,I,((g.setBelow (by simp;omega) _).setBelow (by simp;omega) _).mono E⟩
   ·exact aD
theorem zB (x s:F) (G A:aG) (N R C H:J) (y z:ac) (i:af) (Z4:an i G N y) (Z3:an i A C z):
  bp 177 #[am x G N R,am s A C H] i (fC x y s z):=by
 have Z7:Below i.heap.size i (((i.alloc (al #[M x,aa G N R] 29)).alloc (al #[M s,aa A C H] 29)).alloc (al #[M 0,aa aj 0 0] 29)):=((az i _).alloc ar _).alloc bO _;obtain⟨l,P⟩:∃O,U (cU ak x y=O):=⟨_,I⟩;obtain⟨o,Q⟩:∃O,U (cU ae s z=O):=⟨_,I⟩;have D:U (fC x y s z=if l.ok&&o.ok then ck (λ u v=>u&&&v) l.size l.parts o.size o.parts else bc.no):=by rw[<- P.o,<- Q.o];rfl
 go_enter func177,ntmps177;go_wp2_with fail;refine(zD _ _ _ _ y _ (Z4.below Z7)).mono ?_;rw[P.o];rintro ZK t ⟨⟨n,rfl,X⟩,w⟩;obtain⟨Z9,Z2,Z8,rfl,K⟩:=X.ints;obtain⟨b,c,d,e⟩:=cj (i.heap.size+1+1) w ar;have ZX:=aS w (i.heap.size+1) 0 (M s);have ZW:=aS w (i.heap.size+1) 1 (aa A C H);have S:ap i t:=bJ w;have Z:i.heap.size+1+1<t.heap.size:=b6 b;clear w X;go_wp2_with fail;refine(DS _ _ _ _ z _ ((Z3.below S).below aD)).mono ?_;rw[Q.o];rintro ZK f ⟨⟨n,rfl,Y⟩,B⟩;obtain⟨Z1,ZT,Z0,rfl,Z6⟩:=Y.ints;have Z5:=aS B t.heap.size 0 (M l.size);have ZY:=aS B t.heap.size 1 (aa Z9 Z2 Z8);have a:ap t f:=bJ B;replace d:=aB a b d;replace e:=aB a c e;replace b:=ag a b;replace c:=ag a c;replace K:=K.below a;have V:=au S a;have ZV:=V.size;have ZU:t.heap.size<f.heap.size:=b6 Z5;clear B Y a;cases L:l.ok
 ·go_wp2;refine aK (v:=aL #[am 0 aj 0 0,aw ak]) (by simp[aJ,results177,go_sem,b,c,Z,fr]) I ⟨?_,?_⟩
  ·rw[D.o,L];exact b1.no _ _
  ·exact aD
 ·cases W:o.ok
  ·go_wp2;refine aK (v:=aL #[am 0 aj 0 0,aw ak]) (by simp[aJ,results177,go_sem,b,c,Z,fr]) I ⟨?_,?_⟩
   ·rw[D.o,L,W];exact b1.no _ _
   ·exact aD
  ·go_wp2_with fail;refine(tg _ _ _ _ _ _ _ _ l.parts o.parts _ (K.below aD) (Z6.below aD)).mono ?_;refine op ?_;intro k q p r g j m a;refine kW ?_;intro d e b c;have ZZ:=au V a;replace g:=g.mono (base':=f.heap.size) bO;clear j a;go_wp2;refine aK (v:=aL #[ba #[M (ck (λ u v=>u&&&v) l.size l.parts o.size o.parts).size,aa q p r],aw (ck (λ u v=>u&&&v) l.size l.parts o.size o.parts).ok]) (by simp[aJ,results177,go_sem,b,c]) I ⟨?_,?_⟩
   ·rw[D.o,L,W];exact⟨_,I,((g.setBelow (by simp;omega) _).setBelow (by simp;omega) _).mono E⟩
   ·exact aD
theorem Jz (k ZS:F) (r n:aG) (u A p s:J) (l m:ac) (f:af) (Z9:an f r u l) (Z8:an f n p m):
  bp 136 #[am k r u A,am ZS n p s] f (il k l ZS m):=by
 have X:Below f.heap.size f (((f.alloc (al #[M k,aa r u A] 29)).alloc (al #[M ZS,aa n p s] 29)).alloc (al #[M 0,aa aj 0 0] 29)):=((az f _).alloc ar _).alloc bO _;obtain⟨j,y⟩:∃v,U (cU ak k l=v):=⟨_,I⟩;obtain⟨g,z⟩:∃v,U (ck (λ R V=>R&&&V) j.size j.parts ZS m=v):=⟨_,I⟩;have q:U (il k l ZS m=if j.ok then (if g.ok then cf ae g.size g.parts else bc.no) else bc.no):=by rw[<- z.o,<- y.o];rfl
 go_enter func136,ntmps136;go_wp2_with fail;refine(zP _ _ _ _ l _ (Z9.below X)).mono ?_;rw[y.o];rintro B w ⟨⟨Q,rfl,N⟩,i⟩;obtain⟨Z5,ZU,Z3,rfl,Y⟩:=N.ints;obtain⟨b,c,d,e⟩:=cj (f.heap.size+1+1) i ar;have ZZ:=aS i (f.heap.size+1) 0 (M ZS);have ZY:=aS i (f.heap.size+1) 1 (aa n p s);have C:ap f w:=bJ i;have ZX:=C.size;have P:f.heap.size+1+1<w.heap.size:=b6 b;clear i N;cases t:j.ok
 ·go_wp2;refine aK (v:=aL #[am 0 aj 0 0,aw ak]) (by simp[aJ,results136,go_sem,b,c,P,fr]) I ⟨?_,?_⟩
  ·rw[q.o,t];exact b1.no _ _
  ·exact aD
 ·have D:=C;go_wp2_with fail;refine(tt _ _ _ _ _ _ _ _ j.parts m _ (Y.below aD) ((Z8.below D).below aD)).mono ?_;rw[z.o];rintro B x ⟨⟨Q,rfl,O⟩,H⟩;obtain⟨Z4,ZT,Z2,rfl,Z⟩:=O.ints;have a:ap w x:=bJ H;refine kW ?_;intro d e b c;have G:=au D a;have ZW:=G.size;have ZV:=a.size;clear H a O;cases L:g.ok
  ·go_wp2;refine aK (v:=aL #[am 0 aj 0 0,aw ak]) (by simp[aJ,results136,go_sem,b,c,P,fr]) I ⟨?_,?_⟩
   ·rw[q.o,t,L];exact b1.no _ _
   ·exact aD
  ·go_wp2_with fail;refine(tG _ _ _ _ g.parts _ (Z.below aD)).mono ?_;rintro B Z6 ⟨⟨Q,rfl,o⟩,K⟩;obtain⟨S,Z7,W,rfl,Z0⟩:=o.ints;have a:ap x Z6:=bJ K;refine kW ?_;intro d e b c;have Z1:=au G a;replace o:=o.mono (base':=x.heap.size) bO;clear K a;go_wp2;refine aK (v:=aL #[ba #[M (cf ae g.size g.parts).size,aa S Z7 W],aw (cf ae g.size g.parts).ok]) (by simp[aJ,results136,go_sem,b,c]) I ⟨?_,?_⟩
   ·rw[q.o,t,L];exact⟨_,I,((o.setBelow (by simp;omega) _).setBelow (by simp;omega) _).mono E⟩
   ·exact aD
theorem FV (v o:F) (K B:aG) (Q X G L:J) (w x:ac) (i:af) (ZW:an i K Q w) (P:an i B G x):
  bp 203 #[am v K Q X,am o B G L] i (il v w o x):=by
 have ZZ:Below i.heap.size i (((i.alloc (al #[M v,aa K Q X] 29)).alloc (al #[M o,aa B G L] 29)).alloc (al #[M 0,aa aj 0 0] 29)):=((az i _).alloc ar _).alloc bO _;obtain⟨t,V⟩:∃R,U (cU ak v w=R):=⟨_,I⟩;obtain⟨l,W⟩:∃R,U (ck (λ Z5 Z2=>Z5&&&Z2) t.size t.parts o x=R):=⟨_,I⟩;have H:U (il v w o x=if t.ok then (if l.ok then cf ae l.size l.parts else bc.no) else bc.no):=by rw[<- W.o,<- V.o];rfl
 go_enter func203,ntmps203;go_wp2_with fail;refine(zD _ _ _ _ w _ (ZW.below ZZ)).mono ?_;rw[V.o];rintro ZK u ⟨⟨n,rfl,Z6⟩,A⟩;obtain⟨Z4,ZV,Z1,rfl,N⟩:=Z6.ints;obtain⟨b,c,d,e⟩:=cj (i.heap.size+1+1) A ar;have Z8:=aS A (i.heap.size+1) 0 (M o);have Z7:=aS A (i.heap.size+1) 1 (aa B G L);have y:ap i u:=bJ A;have ZO:=y.size;have S:i.heap.size+1+1<u.heap.size:=b6 b;clear A Z6;cases O:(aI o x&&(o==4))
 ·have ZS:=ab (Mo (s:=v) (xs:=w) O);cases C:t.ok
  ·exact vv
  ·go_wp2_with fail;refine(nj _ _ _ _ _ _ ((P.below y).below aD)).mono ?_;rw[O];rintro ZK f ⟨rfl,s⟩;have a:ap u f:=bJ s;refine kW ?_;intro d e b c;have z:=au y a;have ZX:=z.size;clear s a;exact vv
 ·cases C:t.ok
  ·go_wp2;refine aK (v:=aL #[am 0 aj 0 0,aw ak]) (by simp[aJ,results203,go_sem,b,c,S,fr]) I ⟨?_,?_⟩
   ·rw[H.o,C];exact b1.no _ _
   ·exact aD
  ·go_wp2_with fail;refine(nj _ _ _ _ _ _ ((P.below y).below aD)).mono ?_;rw[O];rintro ZK f ⟨rfl,s⟩;have ZY:=aS s u.heap.size 0 (M t.size);have ZP:=aS s u.heap.size 1 (aa Z4 ZV Z1);have a:ap u f:=bJ s;refine kW ?_;intro d e b c;replace Z8:=ag a Z8;replace Z7:=ag a Z7;replace N:=N.below a;have z:=au y a;have ZX:=z.size;have ZM:u.heap.size<f.heap.size:=b6 ZY;clear s a;go_wp2_with fail;refine(tg _ _ _ _ _ _ _ _ t.parts x _ (N.below aD) ((P.below z).below aD)).mono ?_;rw[W.o];refine op ?_;intro k q p r g j m a;refine kW ?_;intro d e b c;have Y:=au z a;have ZN:=Y.size;have ZL:=a.size;clear j a g;cases Z9:l.ok
   ·go_wp2;refine aK (v:=aL #[am 0 aj 0 0,aw ak]) (by simp[aJ,results203,go_sem,b,c,S,fr]) I ⟨?_,?_⟩
    ·rw[H.o,C,Z9];exact b1.no _ _
    ·exact aD
   ·go_wp2_with fail;refine(tn _ _ _ _ l.parts _ (m.below aD)).mono ?_;rintro ZK ZT ⟨⟨n,rfl,D⟩,Z⟩;obtain⟨Z3,ZU,Z0,rfl,ZQ⟩:=D.ints;have a:ap k ZT:=bJ Z;refine kW ?_;intro d e b c;have ZR:=au Y a;replace D:=D.mono (base':=k.heap.size) bO;clear Z a;go_wp2;refine aK (v:=aL #[ba #[M (cf ae l.size l.parts).size,aa Z3 ZU Z0],aw (cf ae l.size l.parts).ok]) (by simp[aJ,results203,go_sem,b,c]) I ⟨?_,?_⟩
    ·rw[H.o,C,Z9];exact⟨_,I,((D.setBelow (by simp;omega) _).setBelow (by simp;omega) _).mono E⟩
    ·exact aD
theorem MO {c:F} {e:ac} {d:F} {f:ac} (a:(fC c e d f).ok=ae):(fC c e d f).size=4 /\ aI 4 (fC c e d f).parts=ae:=by
 unfold fC at *;split at a
 ·rename_i b;rw[a7 b];simp only[b9] at b;have g:=MN a;have h:=BX b.1;rw[h.1] at g;rw[h.1];exact g
 ·cases a
theorem EG (d:F) (u:aG) (A D:J) (c:ac) (b:af) (H:an b u A c):
  aC 309 #[am d u A D] b (aw (lz d c)):=by
 have X:Below b.heap.size b (b.alloc (al #[M d,aa u A D] 29)):=az b _;obtain⟨i,K⟩:∃o,U (cf ak d c=o):=⟨_,I⟩;obtain⟨t,L⟩:∃o,U (cf ae d c=o):=⟨_,I⟩;obtain⟨B,N⟩:∃o,U (fC i.size i.parts t.size t.parts=o):=⟨_,I⟩;have l:U (lz d c=(i.ok&&(t.ok&&(B.ok&&dR B.parts c)))):=by rw[<- N.o,<- K.o,<- L.o];rfl
 go_enter func309,ntmps309;go_wp2_with fail;refine(AM _ _ _ _ c _ (H.below X)).mono ?_;rw[K.o];rintro ZK C ⟨⟨n,rfl,R⟩,w⟩;obtain⟨V,Z9,W,rfl,G⟩:=R.ints;have y:=aS w b.heap.size 0 (M d);have z:=aS w b.heap.size 1 (aa u A D);have O:ap b C:=bJ w;clear w R;go_wp2_with fail;refine(tG _ _ _ _ c _ ((H.below O).below aD)).mono ?_;rw[L.o];rintro ZK f ⟨⟨n,rfl,S⟩,x⟩;obtain⟨Z7,Z1,Z6,rfl,Z⟩:=S.ints;have Z5:=aS x C.heap.size 0 (M i.size);have Z4:=aS x C.heap.size 1 (aa V Z9 W);have a:ap C f:=bJ x;replace y:=ag a y;replace z:=ag a z;replace G:=G.below a;have P:=au O a;have Z3:=P.size;clear x S a;cases e:i.ok
 ·go_wp2;go_ret;exact⟨ct (by rw[l.o,e];rfl),aD⟩
 ·cases s:t.ok
  ·go_wp2;go_ret;exact⟨ct (by rw[l.o,e,s];rfl),aD⟩
  ·go_wp2_with fail;refine(z8 _ _ _ _ _ _ _ _ i.parts t.parts _ (G.below aD) (Z.below aD)).mono ?_;rw[N.o];refine op ?_;intro k q p r g j m a;replace y:=ag a y;replace z:=ag a z;have E:=au P a;have Z2:=E.size;clear j a g;cases v:B.ok
   ·exact xA
   ·go_wp2_with fail;refine(Bd _ _ _ _ _ _ B.parts c _ (m.below aD) ((H.below E).below aD)).mono ?_;rintro ZK Z8 ⟨rfl,Q⟩;have a:ap k Z8:=bJ Q;have Y:=au E a;clear Q a;go_wp2;go_ret;exact⟨ct (by rw[l.o,e,s,v];rfl),Y⟩
theorem DT (c:F) (x:aG) (t H:J) (b:ac) (d:af) (C:an d x t b):
  aC 70 #[am c x t H] d (aw (lz c b)):=by
 have Z5:Below d.heap.size d (d.alloc (al #[M c,aa x t H] 29)):=az d _;obtain⟨i,G⟩:∃u,U (cf ak c b=u):=⟨_,I⟩;obtain⟨o,O⟩:∃u,U (cf ae c b=u):=⟨_,I⟩;obtain⟨D,w⟩:∃u,U (fC i.size i.parts o.size o.parts=u):=⟨_,I⟩;have l:U (lz c b=(i.ok&&(o.ok&&(D.ok&&dR D.parts b)))):=by rw[<- w.o,<- G.o,<- O.o];rfl
 go_enter func70,ntmps70;go_wp2_with fail;refine(zQ _ _ _ _ b _ (C.below Z5)).mono ?_;rw[G.o];rintro ZK E ⟨⟨n,rfl,X⟩,y⟩;obtain⟨Z,Z1,Z9,rfl,N⟩:=X.ints;have A:=aS y d.heap.size 0 (M c);have B:=aS y d.heap.size 1 (aa x t H);have S:ap d E:=bJ y;clear y X;go_wp2_with fail;refine(tn _ _ _ _ b _ ((C.below S).below aD)).mono ?_;rw[O.o];rintro ZK f ⟨⟨n,rfl,Y⟩,z⟩;obtain⟨ZZ,ZT,ZY,rfl,Z3⟩:=Y.ints;have ZX:=aS z E.heap.size 0 (M i.size);have ZW:=aS z E.heap.size 1 (aa Z Z1 Z9);have a:ap E f:=bJ z;replace A:=ag a A;replace B:=ag a B;replace N:=N.below a;have V:=au S a;have ZV:=V.size;clear z Y a;cases e:i.ok
 ·go_wp2;go_ret;exact⟨ct (by rw[l.o,e];rfl),aD⟩
 ·cases s:o.ok
  ·go_wp2;go_ret;exact⟨ct (by rw[l.o,e,s];rfl),aD⟩
  ·go_wp2_with fail;refine(zB _ _ _ _ _ _ _ _ i.parts o.parts _ (N.below aD) (Z3.below aD)).mono ?_;rw[w.o];refine op ?_;intro k q p r g j m a;replace A:=ag a A;replace B:=ag a B;have L:=au V a;have ZU:=L.size;clear j a g;cases v:D.ok
   ·exact xA
   ·have Z2:p=t:=by
     have K:(cf ak c b).ok=ae:=by rw[G.o];exact e
     have Q:aI c b=ae /\ c=4:=by
      unfold cf at K;split at K
      ·rename_i P;simp only[b9,cR] at P;exact P
      ·cases K
     have Z8:(fC i.size i.parts o.size o.parts).ok=ae:=by rw[w.o];exact v
     have R:=MO Z8;rw[w.o] at R;have Z7:=(cv R.2).2.1;have Z6:=(cv Q.1).2.1;rw[<- m.len,<- C.len,Z7,Z6,Q.2]
    subst Z2
    go_wp2_with fail
    refine(tM _ _ _ _ _ _ _ D.parts b _ (m.below aD) ((C.below L).below aD)).mono ?_;rintro ZK Z0 ⟨rfl,W⟩
    have a:ap k Z0:=bJ W
    have Z4:=au L a
    clear W a
    go_wp2
    go_ret
    exact⟨ct (by rw[l.o,e,s,v];rfl),Z4⟩
theorem um:(prog.info? 27).map (λ a=>(a.zero,a.size,a.bytes))=Z (Z (aa aj 0 0),1,24):=ah
structure rK (w:af) (B n:J) (vals:J->ay) (xss:aU (ac)):Prop where
 row:w.rowIs B 27 n vals
 rows:∀k,k<n->av w (B+1) (vals k) (aO xss k)
 apart:∀j k,j<k->k<n->∀b,(vals j).ownBlock=Z b->(vals k).ownBlock≠Z b
theorem rK.below {e w':af} {B c:J} {d:J->ay} {f:aU (ac)} (a:rK e B c d f) (b:ap e w'):rK w' B c d f :=
 ⟨a.row.of_block (b.block _ a.row.lt),λ h g=>(a.rows h g).below b,a.apart⟩
structure cY (w:af) (base:J) (v:ay) (xss:aU (ac)):Prop where
 own:∃vals,w.ownsRow base 27 1 v xss.length vals /\ vals.length=xss.length /\ ∀k u,vals[k]? =Z u->av w base u (aO xss k) /\ ∀b,u.ownBlock=Z b->v.ownBlock≠Z b
theorem cY.block {d:af} {b:J} {c:ay} {g:aU (ac)} (e:cY d b c g):∀a,c.ownBlock=Z a->b<=a /\ a<d.heap.size:=by
 obtain⟨h,f,_⟩:=e.own;exact fs f
theorem jZ {k e:af} {f i h:J} {g:TypeId} {c:ay} {j:aU ay} (a:k.ownsRow f g i c h j) (d:∀b,c.ownBlock=Z b->e.heap[b]? =k.heap[b]?):e.ownsRow f g i c h j:=by
 exact sd
theorem cY.below {i w':af} {b:J} {h:ay} {j:aU (ac)} (c:cY i b h j) (e:ap i w'):cY w' b h j:=by
 have n:=c.block;obtain⟨o,l,m,d⟩:=c.own;exact⟨o,jZ l (λ a k=>e.block a (n a k).2),m,λ a g f=>⟨(d a g f).1.below e,(d a g f).2⟩⟩
theorem cY.span {m g:af} {c r j:J} {l:ay} {n:aU (ac)} (h:cY m c l n) (k:aA r j m g) (t:j<=c):cY g c l n:=by
 have i:=h.block;obtain⟨s,p,q,d⟩:=h.own;exact⟨s,jZ p (λ a b=>k.block a (i a b).2 (by have:=(i a b).1;omega)),q,λ a f e=>⟨aA.row k (d a f e).1 (λ o b=>by have:=((d a f e).1.block o b).1;omega),(d a f e).2⟩⟩
theorem cY.mono {h:af} {base base':J} {g:ay} {i:aU (ac)} (m:cY h base g i) (c:base'<=base):cY h base' g i:=by
 obtain⟨s,a,n,b⟩:=m.own;refine⟨s,⟨a.1,?_⟩,n,λ e f d=>⟨(b e f d).1.mono c,(b e f d).2⟩⟩;rcases a.2 with o | ⟨l,j,k,q,p,r⟩
 ·exact bj o
 ·exact aP ⟨l,j,k,q,ez c p,r⟩
theorem cY.put2 {j:af} {c b:J} {i q r:ay} {k:aU (ac)} (h:cY j c i k) (s:b<c):cY ((j.setCell (ad b 0) q).setCell (ad b 1) r) c i k:=by
 have o:=h.block;obtain⟨p,m,n,e⟩:=h.own;refine⟨p,jZ m (λ a d=>World.setCell2_other _ _ _ _ _ (by have:=(o a d).1;omega)),n,λ a g f=>⟨(e a g f).1.put2 (λ l d=>by have:=((e a g f).1.block l d).1;omega),(e a g f).2⟩⟩
theorem cY.lit (a:af):cY (a.alloc (al #[] 27)) a.heap.size (aq a.heap.size 0 0) [] :=
 ⟨[],fF a #[] 0 aZ (by unfold maxLen;omega) I,I,λ c d b=>by simp at b⟩
theorem cY.form {n:af} {r:J} {m:ay} {c:aU (ac)} (j:cY n r m c):∃h f s,m=aa h f s /\ f=c.length /\ dj n h f c:=by
 obtain⟨g,e,F,w⟩:=j.own;have D:c.length<=maxLen:=by
  rcases e.2 with ⟨_,d⟩ | ⟨b,t,u,L,z,k,C,y,_⟩<;>omega
 rcases e.2 with ⟨rfl,d⟩ | ⟨b,t,u,rfl,z,k,C,y,H,K⟩
 ·exact⟨aj,0,0,I,d.symm,d,E,λ j=>E⟩
 ·refine⟨_,_,_,I,I,I,by unfold maxLen at D;omega,λ _=>⟨b,0,I,lt_of_block k,λ a G=>?_⟩⟩;have B:a<g.length:=E;have l:g[a]? =Z (g[a]):=fV B;have i:=iN e (g:=b) I a _ l;obtain⟨o,q,p,v,A⟩:=(w a _ l).1.ints;have x:((ad b 0):Addr).add a=⟨b,0+a,aj⟩:=by unfold Addr.add;split<;>simp_all
  rw[x] at i;exact⟨o,q,p,by rw[i,v],A⟩
theorem zE {i:af} {O:bg bD} {rest:aU bD} {u:bD} {s:Act} {A:Exit->Act->af->Prop} (Y:u.guard=aj) (w x:Operand)
  (Z5:u.op=.call {callee:=.builtin .append,args:=#[w,x],argTypes:=#[30,30]})
  (g:J) (m:ay) (j:aU (ac)) (t:J) (Z6:j.length=t) (Z3:s.eval w=m) (G:cY i g m j)
  (v:Addr) (B:J) (k:ay) (r:ac) (Z1:s.eval x=aa (Z v) 1 B) (o: i.cell? v=Z k) (H:av i g k r) (Z2:∀c,k.ownBlock=Z c->m.ownBlock≠Z c)
  (ZP:t<1000000) (W:g<=i.heap.size)
  (S:∀d n l,cY l g (aq d (t+1) n) (j++[r])->i.grownBy l m.ownBlock->g<=d->wpList prog O A rest (s.put u.dst (aq d (t+1) n)) l):
  wpList prog O A (u::rest) s i:=by
 obtain⟨ZW,Z9,Z0,ZZ,ZY⟩:=info_parts um;subst Z6;have X:=G.block;obtain⟨q,T,D,U⟩:=G.own;have Z4:k.oneCell'=ae:=by obtain⟨ZS,ZQ,ZR,h,_⟩:=H.ints;subst h;rfl
 refine wpList_plain Y λ _ V=>wp_append_lies i w x 30 Z5 g 27 ZW (aa aj 0 0) 1 24 underlying30 Z9 Z0 ZZ ZY I aX m j.length q Z3 T v 1 B [k] Z1 I ?_ ?_ aX (by unfold maxLen;omega) E W _ I λ d n l ZV L M ZO=>V _ _ (S d n l ?_ L (by rcases M with h | h;exact(X d h).1;omega))
 ·intro b Q a;exact mN
 ·intro Q z;simp at z;subst z;exact Z4
 ·have N:∀f y,av i g f y->(∀c,f.ownBlock=Z c->m.ownBlock≠Z c)->av l g f y /\ ∀c,f.ownBlock=Z c->(aa (Z (ad d 0)) (j.length+1) n).ownBlock≠Z c:= λ f y e K=>by
   refine⟨e.grown L ?_,λ c F h=>?_⟩
   ·cases ZX:f.ownBlock with
    | none=>exact bj I
    | some c=>exact aP (λ h=>K c ZX h.symm)
   ·have R:d=c:=by have P:Z d=Z c:=h;injection P
    subst R;rcases M with C | C
    ·exact K d F C
    ·have:=(e.block d F).2;omega
  refine⟨q++[k],by rw[dm];exact ZV,by rw[dm,dm,D];rfl,λ p f e=>?_⟩
  by_cases Z8:p<q.length
  ·rw[List.getElem?_append_left Z8] at e;obtain⟨ZU,ZT⟩:=U p f e;have:aO (j++[r]) p=aO j p:=by unfold aO;rw[jH,jH,List.getElem?_append_left E]
   rw[this];exact N f _ ZU ZT
  ·have Z7:p=q.length:=by
    have:=(List.getElem?_eq_some_iff.1 e).1;rw[dm] at this;simp at this;omega
   subst Z7
   rw[List.getElem?_append_right aZ] at e
   simp at e
   subst e
   have:aO (j++[r]) q.length=r:=by unfold aO;rw[jH,D,List.getElem?_append_right aZ];simp
   rw[this]
   exact N k _ H Z2
theorem cY.form2 {e:af} {c:J} {d:ay} {b:aU (ac)} (h:cY e c d b) (l:0<b.length):∃a g,d=aq a b.length g /\ c<=a /\ a<e.heap.size:=by
 obtain⟨o,f,m,n⟩:=h.own;exact v5
end Go.Proofs.YtkjnhlpccgjfhaaGreatDoor
