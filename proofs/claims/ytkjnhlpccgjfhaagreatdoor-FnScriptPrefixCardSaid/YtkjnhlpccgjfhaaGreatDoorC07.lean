/- A part of the proof: lemmas (my texts, shortened by a program of mine). -/
import Derived.Test.YtkjnhlpccgjfhaaGreatDoorC06
set_option linter.all false
set_option maxRecDepth 100000
set_option maxHeartbeats 4000000
namespace Go.Proofs.YtkjnhlpccgjfhaaGreatDoor
open Go.RowKit
open Go.Proofs.Tryz
open BitVec renaming ofInt->ka,ofNat->kM,toNat_ofNat->po
open Bool renaming and_eq_true->b9,false->ak,true->ae
open Classical renaming byContradiction->jJ
open Go renaming Calls->aY,Value->ay,World->af,bodyPost_ret->aK,callFunc->b0,results->aJ,wpQuiet_nil->dn
open Go.BinOp renaming and->fY
open Go.Ending renaming returned->aV
open Go.IntKind renaming i64->cz
open Go.IntWalk renaming i64_in->bV
open Go.Obj renaming cells->al
open Go.Result renaming andThen_ok->ex
open Go.Sem renaming run->c9,run_bind->eC,run_pure->ey
open Go.Value renaming bool->aw,slice->aa,string->aE,tuple->aL
open Go.World renaming ownsRow_lit->fF
open Int renaming gcd->ee,le_refl->fE,mul_le_mul_of_nonneg_right->vc
open List renaming getD_eq_getElem?_getD->jH,getElem?_eq_getElem->fV,getElem_of_mem->kP,length_append->dm,length_map->ec,length_set->iu,mem_cons_of_mem->kN,range->cN,replicate->bE
open Nat renaming and_le_left->kf,le_refl->bL,le_trans->ez,lt_of_le_of_lt->jB,lt_of_lt_of_le->cm,mod_eq_of_lt->pl
open Option renaming isNone_iff_eq_none->eB,none->aj,some->Z
open Or renaming inl->bj,inr->aP
open _root_ renaming Array->bg,Bool->a8,ByteArray->ch,Int->F,List->aU,Nat->J,absurd->bC,beq_iff_eq->cR,decide_eq_true_eq->hB,if_neg->aF,if_pos->a7,rfl->I
variable {p q:Prop}
def hK (a:J):a8:=a==1||a==2||a==4||a==8
def gN (c:F) (a:ac):a8:=aI c a&&bq (λ b=>(O a b==0)||hK b) a.length
def j6 (a c:J):J:=bx (λ b d=>d+if bZ a b then 1 else 0) 0 c
def cw (a:J):J:=j6 a 30
theorem Hs:∀a:Fin 16,(cw a.val==1)=hK a.val:=aX
theorem Bf (a:J) (b:a<16):(cw a==1)=hK a:=Hs ⟨a,b⟩
theorem Mi (b a:J):j6 b a<=a:=by
 induction a with
 | zero=>exact bL _
 | succ a c=>show j6 b a+(if bZ b a then 1 else 0)<=a+1;split<;>omega
theorem IR (b c a:J) (e:b<2^c) (g:c<=a):j6 b a=j6 b c:=by
 induction a with
 | zero =>
   obtain rfl:c=0:=E
   rfl
 | succ a f =>
  by_cases d:c=a+1
  ·rw[d]
  ·show j6 b a+(if bZ b a then 1 else 0)=_;have:bZ b a=ak:=Nat.testBit_lt_two_pow (cm e (Nat.pow_le_pow_right aX E));rw[this,f E];rfl
theorem Ku (a:J) (b:a<1000000000):bits fY cz (a:F) 1=if a.testBit 0 then 1 else 0:=by
 have:=mu a 0 b;simpa using this
theorem Ay {a:F} {b:ac} (c:aI a b=ak):gN a b=ak:=by simp[gN,c]
def bQ (d:ac) (c:J):ac:=bx (λ a b=>if O d a=0 then b else b++[(a:F)]) [] c
theorem hH (b:ac) (a:J):bQ b (a+1)=if O b a=0 then bQ b a else bQ b a++[(a:F)]:=rfl
theorem oM (b:ac) (a:J):(bQ b a).length<=a:=by
 induction a with
 | zero=>exact bL _
 | succ a c =>
  rw[hH];split
  ·omega
  ·simp;omega
theorem oX (d:ac) (a e:J) (c:e<(bQ d a).length):∃b:J,b<a /\ O (bQ d a) e=(b:F) /\ O d b≠0:=by
 induction a with
 | zero=>exact bC c (by show ¬e<0;omega)
 | succ a i =>
  rw[hH] at c ⊢
  by_cases f:O d a=0
  ·rw[a7 f] at c ⊢;obtain⟨b,j,g⟩:=i c;exact⟨b,E,g⟩
  ·rw[aF f] at c ⊢;by_cases h:e<(bQ d a).length
   ·rw[nb _ _ _ h];obtain⟨b,j,g⟩:=i h;exact⟨b,E,g⟩
   ·have:e=(bQ d a).length:=by simp at c;omega
    subst this;exact⟨a,E,by rw[cK _ _ ar];simp,f⟩
theorem Kv (c:ac) (a b:J) (k:b<a) (j:O c b≠0):∃d,d<(bQ c a).length /\ O (bQ c a) d=(b:F):=by
 induction a with
 | zero=>omega
 | succ a f =>
  rw[hH]
  by_cases e:O c a=0
  ·rw[a7 e];have:b≠a:=by rintro rfl;exact j e
   exact f E
  ·rw[aF e];by_cases g:b=a
   ·subst g;exact⟨(bQ c b).length,ar,by rw[cK _ _ ar];simp⟩
   ·obtain⟨d,h,i⟩:=f E;exact⟨d,by simp;omega,by rw[nb _ _ _ h];exact i⟩
theorem Ht:∀a:Fin 16,if hK a.val then a.val≠0 /\ bits fY cz (a.val:F) ((a.val:F)-1)=0 else a.val=0 \/ bits fY cz (a.val:F) ((a.val:F)-1)≠0:=aX
theorem Bg (a:J) (b:a<16):if hK a then a≠0 /\ bits fY cz (a:F) ((a:F)-1)=0 else a=0 \/ bits fY cz (a:F) ((a:F)-1)≠0:=Ht ⟨a,b⟩
def rE (b:ac) (a:J):a8:=bq (λ c=>hK (O (bQ b a) c).toNat) (bQ b a).length
theorem Mj (b:ac) (d:J):rE b d=bq (λ a=>(O b a==0)||hK a) d:=by
 rw[Bool.eq_iff_iff,rE,cp,cp];constructor
 ·intro e a f;by_cases c:O b a=0
  ·simp[c]
  ·obtain⟨i,h,g⟩:=Kv b d a f c;have:=e i h;rw[g] at this;simp at this;simp[this]
 ·intro e i h;obtain⟨a,f,g,c⟩:=oX b d i h;have:=e a f;rw[g];simpa [c] using this
theorem oI (b:J) (z:af) (o:b<1000000000):
  aY prog 79 #[M b] z λ m i=>m=aV (M (cw b)) /\ z=i:=by
 go_enter func79,ntmps79;go_wp2;go_loop [0,3] (λ e u=>∃a:J,a<=30 /\ e=M ((b/2^a:J):F) /\ u=M (j6 b a)) (λ e _=>(intOf e).toNat)
 case atStart=>exact⟨0,E,ar,I⟩
 case round =>
  obtain⟨a,r,rfl,rfl⟩:=hrel;have y:=Mi b a;obtain⟨c,d⟩:∃c:J,U (b/2^a=c):=⟨_,I⟩;rw[d.o];have s:c<1000000000:=by rw[<- d.o];exact jB (Nat.div_le_self _ _) o
  by_cases t:0<c
  ·have x:a<30:=by
    refine jJ λ w=>?_
    have:a=30:=E;subst this;rw[<- d.o] at t;have:b/2^30=0:=Nat.div_eq_of_lt E;omega
   have v:=Ku c s
   have q:U (c.testBit 0=bZ b a):=by rw[U,<- d.o];unfold bZ;simp;exact Nat.testBit_eq_decide_div_mod_eq.symm
   have l:U (j6 b (a+1)=j6 b a+if bZ b a then 1 else 0):=rfl
   have j:U (b/2^(a+1)=c/2):=by rw[U,<- d.o,Nat.pow_succ,Nat.div_div_eq_div_mul]
   cases f:bZ b a
   all_goals
    have p:=q.o;rw[f] at p;go_wp2;go_round
    case rel=>exact⟨a+1,E,by rw[j.o];go_num,by rw[l.o,f];go_num⟩
    case measure=>simp[intOf];omega
  ·have g:c=0:=E;have k:U (j6 b a=cw b):=by
    have n:b<2^a:=by
     have:=d.o;rw[g] at this;exact(Nat.div_eq_zero_iff_lt (Nat.two_pow_pos a)).1 this
    exact(IR b a 30 n r).symm
   clear g;go_wp2;go_ret;exact⟨by rw[<- k.o];rfl,I⟩
theorem E0 (e:F) (r:aG) (g y:J) (a:ac) (i:af) (p:an i r g a):
  aC 68 #[am e r g y] i (aw (gN e a)):=by
 have A:=az i (al #[M e,aa r g y] 29);cases o:aI e a
 ·have q:=ab (Ay o);rw[q.o];go_enter func68,ntmps68;go_wp2;refine wp_loop_rounds 1 ?_;rw[rounds_succ];go_wp2_with fail;refine(dA _ _ _ _ _ _ (p.below A)).mono ?_;rw[o];rintro z w ⟨rfl,c⟩;obtain⟨j,k,d⟩:=dZ c;exact xK
 ·obtain⟨ZY,Z7,Z0,P,_,_,_⟩:=cv o;have s:=ab p.len;have ZZ:g<=16:=by have:=s.o;omega
  have K:=ab P;clear P;clear Z7;cases m:bq (λ L=>(O a L==0)||hK L) a.length
  ·obtain⟨D,Z8,N⟩:=ii m;have q:U (gN e a=ak):=by show gN e a=ak;unfold gN;rw[m];simp
   rw[q.o];rw[s.o] at Z8;have H:=ab N;clear m N;go_enter func68,ntmps68;go_wp2;go_loopw [3] (λ l wr=>∃b:J,b<=D /\ l=M b /\ wr.cell? (ad i.heap.size 0)=Z (M e) /\ wr.cell? (ad i.heap.size 1)=Z (aa r g y) /\ ap i wr) (λ l _=>g-(intOf l).toNat)
   case atStart=>exact⟨0,E,I,ar,ar,A⟩
   case round =>
    obtain⟨b,Z9,rfl,j,k,v⟩:=hrel;have n:b<g:=E;go_wp2_with fail;refine s5 ?_;intro w c d j k;obtain⟨V,Z3,rfl,Y,Q,B⟩:=p.at d n;refine mS ?_;intro t u;have Z4:=K.o b (by rw[s.o];exact n);have x:=ab (Bf b E);clear c v;by_cases f:O a b=0
    ·have Z6:b≠D:=by rintro rfl;have:=H.o;rw[f] at this;simp at this
     rw[f] at B;have T:=ab f;clear f;go_wp2;exact r8
    ·have Z5:0<O a b:=E;cases C:hK b
     ·have G:((cw b:F) != 1)=ae:=by have:=x.o;simp[C] at this;simpa using (show ¬(cw b:F)=1 from E)
      go_wp2_with (first | (go_at_call 79;refine(oI b _ E).mono ?_;rintro z Z2 ⟨rfl,rfl⟩));go_ret;exact⟨I,d⟩
     ·have Z6:b≠D:=by rintro rfl;have:=H.o;rw[C] at this;simp at this
      have G:(cw b:F)=1:=by have:=x.o;simp[C] at this;omega
      exact w7
  ·have q:U (gN e a=ae):=by show gN e a=ae;unfold gN;rw[o,m];rfl
   rw[q.o];have S:=ab ((cp _ _).1 m);clear m;go_enter func68,ntmps68;go_wp2;go_loopw [3] (λ l wr=>∃b:J,b<=g /\ l=M b /\ wr.cell? (ad i.heap.size 0)=Z (M e) /\ wr.cell? (ad i.heap.size 1)=Z (aa r g y) /\ ap i wr) (λ l _=>g-(intOf l).toNat)
   case atStart=>exact⟨0,E,I,ar,ar,A⟩
   case round =>
    obtain⟨b,Z9,rfl,j,k,v⟩:=hrel;by_cases n:b<g
    ·go_wp2_with fail;refine s5 ?_;intro w c d j k;obtain⟨V,Z3,rfl,Y,Q,B⟩:=p.at d n;refine mS ?_;intro t u;have Z4:=K.o b (by rw[s.o];exact n);have x:=ab (Bf b E);have R:=ab (S.o b (by rw[s.o];exact n));clear c v;by_cases f:O a b=0
     ·rw[f] at B;have T:=ab f;clear f;go_wp2;exact r8
     ·have Z5:0<O a b:=E;have G:(cw b:F)=1:=by
       have W:=R.o;have X:hK b=ae:=by simpa [f] using W
       have:=x.o;simp[X] at this;omega
      exact w7
    ·go_wp2_with fail;refine s5 ?_;intro w c d j k;exact xK
theorem tB (k:F) (f:aG) (g j:J) (e:ac) (a:af) (t:an a f g e) (K:g<=100):
  aY prog 232 #[am k f g j] a λ m l=>∃i,m=aV i /\ av l a.heap.size i (bQ e g) /\ ap a l:=by
 have G:=t.cap;have u:Below a.heap.size a ((a.alloc (al #[M k,aa f g j] 29)).alloc (al #[] 3)):=(az a _).alloc ar _;go_enter func232,ntmps232;go_wp2;go_loopw [3,4,5,10] (λ y _ _ n wr=>∃(b:J) (i:ay),b<=g /\ n=M b /\ y=i /\ av wr a.heap.size i (bQ e b) /\ ap a wr) (λ _ _ _ n _=>g-(intOf n).toNat)
 case atStart =>
  refine⟨0,_,E,I,I,?_,u⟩;have:av ((a.alloc (al #[M k,aa f g j] 29)).alloc (al #[] 3)) (a.alloc (al #[M k,aa f g j] 29)).heap.size (aq ((a.alloc (al #[M k,aa f g j] 29)).heap.size) 0 0) []:=fF _ #[] 0 aZ (by unfold maxLen;omega) I;have:=this.mono (base':=a.heap.size) ar;simpa [bQ,bx] using this
 case round =>
  obtain⟨b,i,H,rfl,rfl,d,c⟩:=hrel;by_cases x:b<g
  ·obtain⟨r,N,rfl,C,B,v⟩:=t.at c x;have w:=oM e b;by_cases P:O e b=0
   ·have q:U (bQ e (b+1)=bQ e b):=by rw[U,hH,a7 P]
    rw[P] at v;clear P;go_wp2;go_roundw
    case rel=>exact⟨b+1,_,E,by go_num,I,by rw[q.o];exact d,c⟩
    case measure=>simp[intOf];omega
   ·have q:U (bQ e (b+1)=bQ e b++[(b:F)]):=by rw[U,hH,aF P]
    have L:(O e b != 0)=ae:=by simpa using P
    obtain⟨o,p⟩:∃o,U ((bQ e b).length=o):=⟨_,I⟩;rw[p.o] at w;clear P;go_wp2_with (at_builtin;refine iz I _ _ I a.heap.size _ _ o p.o a6 (d.below (az wr _)) _ _ (b:F) a6 ar E (by simp;have:=c.size;omega) ?_;intro A z l Z8 s);have Y:=ab (cV (B:=a.heap.size) (c.alloc (by have:=c.size;omega) _) (by simp;have:=c.size;omega) s (λ r m=>(d.block r m).1));clear s d c;exact sn
  ·exact r7
theorem Hj (n:F) (y:aG) (d C:J) (c:ac) (B:af) (v:an B y d c):
  aC 307 #[am n y d C] B (aw (gN n c)):=by
 have D:=az B (al #[M n,aa y d C] 29);cases k:aI n c
 ·have w:=ab (Ay k);rw[w.o];go_enter func307,ntmps307;go_wp2_with fail;refine(cn _ _ _ _ _ _ (v.below D)).mono ?_;rw[k];rintro j Z5 ⟨rfl,q⟩;obtain⟨Z8,Z7,l⟩:=dZ q;exact kV
 ·obtain⟨ZW,Z9,Z2,Z0,_,_,_⟩:=cv k;have K:=ab v.len;have ZY:d<=16:=by have:=K.o;omega
  have w:U (gN n c=rE c d):=by rw[U,Mj,<- K.o];unfold gN;rw[k];rfl
  rw[w.o];clear Z9;cases p:rE c d;all_goals
   go_enter func307,ntmps307;go_wp2_with fail;refine(cn _ _ _ _ _ _ (v.below D)).mono ?_;rw[k];rintro j Z5 ⟨rfl,q⟩;obtain⟨Z8,Z7,l⟩:=dZ q;clear q;go_wp2_with fail;refine(tB _ _ _ _ c _ (v.below l) E).mono ?_;rintro j ZU ⟨ZV,rfl,L,G⟩;obtain⟨Z3,m,Z4,rfl,r⟩:=L.ints;have u:=au l G;have s:=ab r.len;have ZZ:=r.cap;clear L G
  ·obtain⟨N,ZR,H⟩:=ii p;rw[s.o] at ZR;have Q:=ab H;clear p H;go_wp2;go_loop [4,11] (λ _ f=>∃a:J,a<=N /\ f=M a) (λ _ f=>m-(intOf f).toNat)
   case atStart=>exact⟨0,E,I⟩
   case round =>
    obtain⟨a,Y,rfl⟩:=hrel;have i:a<m:=E;obtain⟨T,Z6,rfl,X,O,z⟩:=r.at bA i;obtain⟨b,V,e,_⟩:=oX c d a (by rw[s.o];exact i);rw[e] at z;have x:=ab (Bg b E);have R:=ab e;clear e;cases t:hK b
    ·have g:=x.o;simp only[t] at g;have ZS:b=0 \/ (0<b /\ bits fY cz (b:F) ((b:F)-1)≠0):=by
      by_cases j:b=0
      ·exact bj j
      ·exact aP ⟨E,by simpa [j] using g⟩
     clear g;rcases ZS with ZS | ⟨ZS,o⟩
     ·subst ZS;exact lV
     ·obtain⟨A,S⟩:∃A,bits fY cz (b:F) ((b:F)-1)=A:=⟨_,I⟩;rw[S] at o;have Z1:(A != 0)=ae:=by simpa using o
      clear o;have W:((b:F)==0)=ak:=by simp;omega
      exact lV
    ·have ZX:a≠N:=by rintro rfl;have:=Q.o;rw[R.o] at this;simp[t] at this
     exact xL
  ·have P:=ab ((cp _ _).1 p);clear p;go_wp2;go_loop [4,11] (λ _ f=>∃a:J,a<=m /\ f=M a) (λ _ f=>m-(intOf f).toNat)
   case atStart=>exact⟨0,E,I⟩
   case round =>
    obtain⟨a,Y,rfl⟩:=hrel;by_cases i:a<m
    ·obtain⟨T,Z6,rfl,X,O,z⟩:=r.at bA i;obtain⟨b,V,e,_⟩:=oX c d a (by rw[s.o];exact i);rw[e] at z;have x:=ab (Bg b E);have t:hK b=ae:=by have:=P.o a (by rw[s.o];exact i);rw[e] at this;simpa using this
     clear e;exact xL
    ·exact lV
theorem Fs (a:J) (b:af) (f:a<16):
  aY prog 348 #[.int .u64 a] b λ d c=>d=aV (M (cw a)) /\ b=c:=by
 have e:a=0 \/ a=1 \/ a=2 \/ a=3 \/ a=4 \/ a=5 \/ a=6 \/ a=7 \/ a=8 \/ a=9 \/ a=10 \/ a=11 \/ a=12 \/ a=13 \/ a=14 \/ a=15:=E;clear f;rcases e with rfl | rfl | rfl | rfl | rfl | rfl | rfl | rfl | rfl | rfl | rfl | rfl | rfl | rfl | rfl | rfl
 all_goals
  go_enter func348,ntmps348;go_wp2;go_ret;exact⟨gZ cS,I⟩
theorem Ae (a:J) (d:af) (e:a<16):
  aY prog 302 #[.int .u64 a] d λ c b=>c=aV (M (cw a)) /\ d=b:=by
 go_enter func302,ntmps302;go_wp2_with (first | (go_at_call 348;refine(Fs a _ e).mono ?_;rintro c b ⟨rfl,rfl⟩));go_ret;exact⟨I,I⟩
theorem mq (b c:J) (f:b<1000000000) (h:c<1000000000):bits fY cz (b:F) (c:F)=((b&&&c:J):F):=by
 refine s3 ?_;intro a;show IntKind.i64.wrap ((((ka 64 (b:F))&&&(ka 64 (c:F))).toNat:J):F)=_;rw[a,a];have e:(kM 64 b&&&kM 64 c).toNat=(b&&&c):=by
  exact xG
 rw[e];apply bV;have:b&&&c<=b:=kf;omega
theorem Mk:∀a:Fin 16,a.val=0 \/ (cw a.val=1 \/ cw a.val=2 \/ cw a.val=3 \/ cw a.val=4):=aX
theorem CT (a:J) (b:a<16) (c:a≠0):cw a=1 \/ cw a=2 \/ cw a=3 \/ cw a=4:=(Mk ⟨a,b⟩).resolve_left c
theorem MI:∀a:Fin 16,cw a.val<=4:=aX
theorem nO (a:J) (b:a<16):cw a<=4:=MI ⟨a,b⟩
def ju (c:F) (b a:J):F:=c*((12*cw (a&&&b)/cw a:J):F)
def cP (e:ac) (b c:J):F:=bx (λ a d=>d+if a=0 then 0 else ju (O e a) b a) 0 c
theorem Dl (d:F) (k:0<=d) (b a:J) (h:a=1 \/ a=2 \/ a=3 \/ a=4):d*(b:F)*12/(a:F)=d*((12*b/a:J):F):=by
 obtain⟨c,e⟩:∃c:J,12=a*c:=by
  rcases h with rfl | rfl | rfl | rfl
  ·exact⟨12,I⟩
  ·exact⟨6,I⟩
  ·exact⟨4,I⟩
  ·exact⟨3,I⟩
 have i:(a:F)≠0:=E;have j:0<a:=E;have f:12*b/a=c*b:=by rw[e,Nat.mul_assoc,Nat.mul_div_cancel_left _ j]
 rw[f];have g:d*(b:F)*12=(a:F)*(d*((c*b:J):F)):=by
  have:(12:F)=(a:F)*(c:F):=by exact_mod_cast e
  rw[this];push_cast;ac_rfl
 rw[g,Int.mul_ediv_cancel_left _ i]
theorem uw (c:F) (b a:J) (e:0<=c) (f:c<=1000000) (i:a<16):0<=ju c b a /\ ju c b a<=48000000:=by
 unfold ju;have g:12*cw (a&&&b)/cw a<=48:=by
  have j:cw (a&&&b)<=4:=nO _ (jB kf i);exact ez (Nat.div_le_self _ _) E
 have d:(0:F)<=((12*cw (a&&&b)/cw a:J):F):=Int.natCast_nonneg _;have h:((12*cw (a&&&b)/cw a:J):F)<=48:=by exact_mod_cast g
 generalize ((12*cw (a&&&b)/cw a:J):F)=k at *;refine⟨Int.mul_nonneg e d,?_⟩;have:=Int.mul_le_mul f h d E;omega
theorem kt (b:ac) (c d:J) (k:d<=16) (f:∀a,a<d->0<=O b a /\ O b a<=1000000) (a:J) (j:a<=d):0<=cP b c a /\ cP b c a<=48000000*(a:F):=by
 induction a with
 | zero=>exact⟨by simp[cP,bx],by simp[cP,bx]⟩
 | succ a g =>
  have h:=g E
  have e:=f a E
  have i:=uw (O b a) c a e.1 e.2 E
  show 0<=cP b c a+(if a=0 then 0 else ju (O b a) c a) /\ cP b c a+(if a=0 then 0 else ju (O b a) c a)<=_
  push_cast
  split<;>omega
theorem tE (x:F) (m:aG) (b s:J) (c:J) (d:ac) (p:af) (L:an p m b d) (K:b<=16) (W:c<16) (n:∀a,a<b->0<=O d a /\ O d a<=1000000):
  aC 226 #[am x m b s,M c] p (M (cP d c b)):=by
 have e:=az p (al #[M x,aa m b s] 29);have C:=ab n;have y:=ab (kt d c b K n);clear n;go_enter func226,ntmps226;go_wp2;go_loop [5,6,7,11] (λ N _ _ o=>∃a:J,a<=b /\ o=M a /\ N=M (cP d c a)) (λ _ _ _ o=>b-(intOf o).toNat)
 case atStart=>exact⟨0,E,I,I⟩
 case round =>
  obtain⟨a,H,rfl,rfl⟩:=hrel;by_cases w:a<b
  ·obtain⟨T,ZX,rfl,X,Q,Y⟩:=L.at e w;have i:=C.o a w;have ZV:=y.o a H;have q:U (cP d c (a+1)=cP d c a+if a=0 then 0 else ju (O d a) c a):=rfl;have Z6:(a:F)<=16:=E;by_cases g:a=0
   ·have z:=ab g;have Z8:((a:F) != 0)=ak:=by simp[g]
    clear g;go_wp2;go_round
    case rel=>exact⟨a+1,E,by go_num,by rw[q.o,a7 z.o,Int.add_zero]⟩
    case measure=>simp[intOf];omega
   ·have G:=mq a c E E;have t:=CT a E g;have v:a&&&c<16:=jB kf E;have u:=nO (a&&&c) v;have B:=ab (Dl (O d a) i.1 (cw (a&&&c)) (cw a) t);obtain⟨j,r⟩:∃j:J,U (a&&&c=j):=⟨_,I⟩;rw[r.o] at G v u;obtain⟨ZW,k⟩:∃ZW:J,U (cw j=ZW):=⟨_,I⟩;obtain⟨f,l⟩:∃f:J,U (cw a=f):=⟨_,I⟩;rw[k.o] at u;have Z2:1<=f /\ f<=4:=by rw[<- l.o];omega
    have Z5:0<=O d a*(ZW:F):=Int.mul_nonneg i.1 E;have Z4:O d a*(ZW:F)<=4000000:=by
     have:=Int.mul_le_mul i.2 (show (ZW:F)<=4 from E) E E;omega
    have Z1:¬(f:F)=0:=E;have Z0:((f:F)==0)=ak:=by simp;omega
    have Z9:=uw (O d a) c a i.1 i.2 E;have D:U (O d a*(ZW:F)*12/(f:F)=ju (O d a) c a):=by
     rw[U,<- k.o,<- l.o,<- r.o];exact B.o
    have Z3:=D.o;have R:((a:F) != 0)=ae:=by simp;omega
    have Z7:0<a:=E;have ZZ:IntKind.u64.wrap (a:F)=(a:F):=by rw[IntWalk.u64_in];omega
    have ZY:IntKind.u64.wrap (j:F)=(j:F):=by rw[IntWalk.u64_in];omega
    have A:=ab g;clear t g;go_wp2_with (first | (go_at_call 302;refine(Ae _ _ E).mono ?_;(first | rw[k.o] | rw[l.o]);rintro V S ⟨rfl,rfl⟩));go_round
    case rel=>exact⟨a+1,E,by go_num,by rw[q.o,aF A.o]⟩
    case measure=>simp[intOf];omega
  ·exact oa
def dh (d:J->J->J) (f g:ac) (b:J) (a:ac) (e:J):ac:=bx (λ c a=>a.set (d b c) (O a (d b c)+O f b*O g c)) a e
def bN (b:J->J->J) (g h:ac) (a f d:J):ac:=bx (λ c e=>dh b g h c e f) (bE a 0) d
theorem Kw (c:J->J->J) (e f:ac) (d:J) (b:ac) (a:J):(dh c e f d b a).length=b.length:=by
 induction a with
 | zero=>rfl
 | succ a g=>show ((dh c e f d b a).set _ _).length=_;rw[iu];exact g
theorem jj (c:J->J->J) (e f:ac) (b d a:J):(bN c e f b d a).length=b:=by
 induction a with
 | zero=>simp[bN,bx]
 | succ a g=>show (dh c e f a (bN c e f b d a) d).length=b;rw[Kw];exact g
theorem qX (a b:F) (d:0<=a) (e:a<=1000000) (c:0<=b) (f:b<=1000000):0<=a*b /\ a*b<=1000000000000:=by
 refine⟨Int.mul_nonneg d c,?_⟩;have:=Int.mul_le_mul e f c E;omega
theorem uc (d:J->J->J) (f g:ac) (b:J) (e:ac) (i:F) (m:J) (k:0<=O f b /\ O f b<=1000000) (o:∀h,h<m->0<=O g h /\ O g h<=1000000) (n:∀c,0<=O e c /\ O e c<=i) (a:J) (s:a<=m) (c:J):
  0<=O (dh d f g b e a) c /\ O (dh d f g b e a) c<=i+1000000000000*(a:F):=by
 induction a generalizing c with
 | zero=>have:=n c;show 0<=O e c /\ O e c<=_;omega
 | succ a l =>
  have p:=l E c
  have q:=l E (d b a)
  have j:=o a E
  have r:=qX _ _ k.1 k.2 j.1 j.2
  show 0<=O ((dh d f g b e a).set (d b a) (O (dh d f g b e a) (d b a)+O f b*O g a)) c /\ O ((dh d f g b e a).set (d b a) (O (dh d f g b e a) (d b a)+O f b*O g a)) c<=_
  rw[cO]
  push_cast
  split<;>omega
theorem jY (f:J->J->J) (d e:ac) (g j b:J) (p:b<=16) (k:∀h,h<j->0<=O d h /\ O d h<=1000000) (l:∀i,i<b->0<=O e i /\ O e i<=1000000) (a:J) (o:a<=j) (c:J):
  0<=O (bN f d e g b a) c /\ O (bN f d e g b a) c<=16000000000000*(a:F):=by
 induction a generalizing c with
 | zero=>show 0<=O (bE g 0) c /\ O (bE g 0) c<=_;rw[eF];omega
 | succ a m =>
  have n:=uc f d e a (bN f d e g b a) (16000000000000*(a:F)) b (k a E) l (λ c=>m E c) b aZ c
  show 0<=O (dh f d e a (bN f d e g b a) b) c /\ O (dh f d e a (bN f d e g b a) b) c<=_
  push_cast
  omega
def cJ (a:F) (c:ac) (b:F) (d:ac):a8:=aI a c&&(aI b d&&(a==b))
def ck (d:J->J->J) (c:F) (a:ac) (e:F) (b:ac):bc:=if cJ c a e b then bh c (bN d a b a.length b.length a.length) else bc.no
theorem oO {T:J->J->J} {a:F} {c:ac} {b:F} {d:ac} (e:cJ a c b d=ak):ck T a c b d=bc.no:=by simp[ck,e]
theorem fN {a:F} {c:ac} {b:F} {d:ac} (e:cJ a c b d=ae):aI a c=ae /\ aI b d=ae /\ b=a /\ d.length=c.length:=by
 simp only[cJ,b9,cR] at e;obtain⟨f,g,h⟩:=e;refine⟨f,g,h.symm,?_⟩;rw[(cv f).2.1,(cv g).2.1,h]
theorem qh (d e:F) (f g:aG) (m n k o:J) (q r:ac) (a:af) (z:an a f m q) (A:an a g k r):
  aC 217 #[am d f m n,am e g k o] a (aw (cJ d q e r)):=by
 have t:Below a.heap.size a ((a.alloc (al #[M d,aa f m n] 29)).alloc (al #[M e,aa g k o] 29)):=(az a _).alloc ar _;cases b:aI d q
 ·go_enter func217,ntmps217;go_wp2_with fail;refine(cn _ _ _ _ _ _ (z.below t)).mono ?_;rw[b];rintro s j ⟨rfl,i⟩;exact ww
 ·cases p:aI e r;all_goals
   go_enter func217,ntmps217;go_wp2_with fail;refine(cn _ _ _ _ _ _ (z.below t)).mono ?_;rw[b];rintro s j ⟨rfl,i⟩;have v:=aS i a.heap.size 0 (M d);have w:=aS i a.heap.size 1 (aa f m n);have x:=aS i (a.heap.size+1) 0 (M e);have y:=aS i (a.heap.size+1) 1 (aa g k o);have l:ap a j:=dz i;clear i;go_wp2_with fail;refine(cn _ _ _ _ _ _ (A.below l)).mono ?_;rw[p];rintro s B ⟨rfl,c⟩;replace v:=ag c v;replace w:=ag c w;replace x:=ag c x;replace y:=ag c y;have u:=au l c;clear c
  ·go_wp2;go_ret;exact⟨ct (by simp[cJ,p]),u⟩
  ·go_wp2;go_ret;exact⟨ct (by simp[cJ,b,p]),u⟩
theorem oy (d e:F) (f g:aG) (m n k o:J) (q r:ac) (a:af) (z:an a f m q) (A:an a g k r):
  aC 80 #[am d f m n,am e g k o] a (aw (cJ d q e r)):=by
 have t:Below a.heap.size a ((a.alloc (al #[M d,aa f m n] 29)).alloc (al #[M e,aa g k o] 29)):=(az a _).alloc ar _;cases b:aI d q
 ·go_enter func80,ntmps80;go_wp2_with fail;refine(dA _ _ _ _ _ _ (z.below t)).mono ?_;rw[b];rintro s j ⟨rfl,i⟩;exact ww
 ·cases p:aI e r;all_goals
   go_enter func80,ntmps80;go_wp2_with fail;refine(dA _ _ _ _ _ _ (z.below t)).mono ?_;rw[b];rintro s j ⟨rfl,i⟩;have v:=aS i a.heap.size 0 (M d);have w:=aS i a.heap.size 1 (aa f m n);have x:=aS i (a.heap.size+1) 0 (M e);have y:=aS i (a.heap.size+1) 1 (aa g k o);have l:ap a j:=dz i;clear i;go_wp2_with fail;refine(dA _ _ _ _ _ _ (A.below l)).mono ?_;rw[p];rintro s B ⟨rfl,c⟩;replace v:=ag c v;replace w:=ag c w;replace x:=ag c x;replace y:=ag c y;have u:=au l c;clear c
  ·go_wp2;go_ret;exact⟨ct (by simp[cJ,p]),u⟩
  ·go_wp2;go_ret;exact⟨ct (by simp[cJ,b,p]),u⟩
theorem tK (ZE ZD:F) (D G:aG) (g V e W:J) (f i:ac) (x:FuncId) (d:J->J->J) (a:af) (ZO:an a D g f) (ZN:an a G e i) (Zj:g<=16) (ZR:e<=16)
  (Zq:∀(Z1:bg ay) (t:af),c9 prog (b0 x Z1) t=.ok (.enter x Z1) t)
  (L:∀b,b<g->0<=O f b /\ O f b<=1000000) (S:∀b,b<e->0<=O i b /\ O i b<=1000000) (Z9:∀s k,s<g->k<e->d s k<g)
  (Z4:∀(s k:J) (t:af),s<g->k<e->aY prog x #[M s,M k] t λ Y ZW=>Y=aV (M (d s k)) /\ t=ZW):
  db 220 #[am ZE D g V,am ZD G e W,.func (.func x) #[] #[]] a (bN d f i g e g):=by
 have ZU:=ab Z4;clear Z4;have ZV:=ab Z9;clear Z9;have ZT:=ab L;have N:=ab S;have ZG:=ab (jY d f i g g e ZR L S);clear L S;go_enter func220,ntmps220;go_wp2_with (at_make;refine e6 I _ _ I g _ _ I I I I E ?_;intro u Z6 A Z2;(have ZQ:=aS A a.heap.size 1 (aa D g V));(have ZP:=aS A (a.heap.size+1) 1 (aa G e W)));have R:ap a u:=dz A;have ZY:av u (a.heap.size+1+1) (aq (a.heap.size+1+1) g g) (bE g 0):=by simpa using Z6
 have ZX:a.heap.size+1+1<u.heap.size:=by simpa using Z2
 clear Z6 A Z2;go_loopw [8,9,19] (λ _ _ p wr=>∃b:J,b<=g /\ p=M b /\ av wr (a.heap.size+1+1) (aq (a.heap.size+1+1) g g) (bN d f i g e b) /\ Below (a.heap.size+1+1) u wr /\ a.heap.size+1+1<wr.heap.size) (λ _ _ p _=>g-(intOf p).toNat)
 case atStart=>exact⟨0,E,I,ZY,Below.refl _ _,ZX⟩
 case round =>
  obtain⟨b,ZF,rfl,n,m,ZM⟩:=hrel;refine l1 ?_;intro q;have Zz:=dL m E ZQ;have Zy:=dL m E ZP;by_cases C:b<g
  ·obtain⟨k,Zi,rfl,Zt,ZB,Zp⟩:=ZO.at q C;have v:=ZT.o b C;refine zi ?_;intro j K w o n Z0 y;go_wp2;obtain⟨ZZ,rfl⟩:∃ZZ:af,ZZ=wr:=⟨_,I⟩;go_loopw [10,11,27] (λ _ _ p T=>∃c:J,c<=e /\ p=M c /\ av T (a.heap.size+1+1) (aq (a.heap.size+1+1) g g) (dh d f i b j c) /\ Below (a.heap.size+1+1) u T /\ a.heap.size+1+1<T.heap.size) (λ _ _ p _=>e-(intOf p).toNat)
   case atStart=>exact⟨0,E,I,n,m,ZM⟩
   case round =>
    obtain⟨c,z,rfl,r,l,X⟩:=hrel;have ZS:ap a wr:=R.trans (l.mono E);by_cases B:c<e
    ·obtain⟨Zx,Zh,rfl,Zs,ZA,Zo⟩:=ZN.at ZS B;have Z7:=N.o c B;have Z8:=ZV.o b c C B;have Zk:=qX _ _ v.1 v.2 Z7.1 Z7.2;have Zu:=y.o c z (d b c);have Zl:(b:F)<=16:=E;have Zm:(c:F)<=16:=E;have Y0:U (dh d f i b j (c+1)=(dh d f i b j c).set (d b c) (O (dh d f i b j c) (d b c)+O f b*O i c)):=rfl;obtain⟨Zr,Zn,_⟩:=r.cellAt Z8;obtain⟨ZC,Z3,Z5,H⟩:=dC r Z8 (O (dh d f i b j c) (d b c)+O f b*O i c);have ZI:=ab (iD l E H aZ);have ZH:a.heap.size+1+1<ZC.heap.size:=by have:=H.size;omega
     have ZJ:=ab Z3;have Zw:(0:F)<=(d b c:F):=E;have Zv:((d b c:J):F)<(g:F):=E;clear Z3 H;go_wp2_with fail;refine(ZU.o b c _ C B).mono ?_;rintro Y Zg ⟨rfl,rfl⟩;exact wT
    ·have Q:c=e:=E;exact sz
  ·exact sb
theorem Hk (a b:J) (c:af) (g:a<16) (i:b<16):
  aY prog 301 #[M a,M b] c λ e d=>e=aV (M ((λ a b=>a&&&b) a b:J)) /\ c=d:=by
 have f:=mq a b E E;go_enter func301,ntmps301;go_wp2;go_ret;exact⟨gZ (by simp[f]),I⟩
theorem F7 (c:bg ay) (a:af):c9 prog (b0 301 c) a=.ok (.enter 301 c) a:=by
 have g:(Tryz.f301.name== "runtime.NumGoroutine")=ak:=ah;have b:Tryz.f301.body.isNone=ak:=ah;have d:¬Tryz.f301.name= "runtime.NumGoroutine" :=by simpa using g
 have e:¬Tryz.f301.body=aj:=by intro f;rw[f] at b;simp at b
 simp only[b0,eC,run_program,ex,func301,cR,eB,aF d,aF e,ey]
theorem qn (l m:F) (j k:aG) (b n f o:J) (g Q:ac) (a:af) (A:an a j b g) (B:an a k f Q) (z:b<=16) (K:f<=b)
  (s:∀c,c<b->0<=O g c /\ O g c<=1000000) (t:∀c,c<f->0<=O Q c /\ O Q c<=1000000):
  db 219 #[am l j b n,am m k f o] a (bN (λ d e=>d&&&e) g Q b f b):=by
 have p:Below a.heap.size a ((a.alloc (al #[M l,aa j b n] 29)).alloc (al #[M m,aa k f o] 29)):=(az a _).alloc ar _;have v:=ab s;have w:=ab t;clear s t;go_enter func219,ntmps219;go_wp2_with fail;refine(tK l m _ _ _ _ _ _ g Q 301 (λ d e=>d&&&e) _ (A.below p) (B.below p) z E F7 v.o w.o (λ d e q y=>jB kf q) (λ d e u q y=>Hk d e u E E)).mono ?_;rintro H C ⟨⟨P,rfl,i⟩,r⟩;have x:ap a C:=dz r;obtain⟨D,N,G,rfl,L⟩:=i.ints;replace i:=i.mono (base':=a.heap.size) bO;clear r;go_wp2;go_ret;exact⟨⟨_,I,i⟩,x⟩
theorem tt (g q:F) (s t:aG) (m y b z:J) (n o:ac) (a:af) (Z8:an a s m n) (Z6:an a t b o):
  bp 122 #[am g s m y,am q t b z] a (ck (λ w x=>w&&&x) g n q o):=by
 have X:Below a.heap.size a (((a.alloc (al #[M g,aa s m y] 29)).alloc (al #[M q,aa t b z] 29)).alloc (al #[M 0,aa aj 0 0] 29)):=((az a _).alloc ar _).alloc bO _;cases B:cJ g n q o
 ·have Z4:=ab (oO (T:= λ w x=>w&&&x) B);rw[Z4.o];go_enter func122,ntmps122;go_wp2_with fail;refine hj ?_;refine iV ?_;intro u c d e f l;go_wp2;refine aK (v:=aL #[am 0 aj 0 0,aw ak]) (by simp[aJ,results122,go_sem,c,d]) I ⟨?_,?_⟩
  ·exact b1.no _ _
  ·exact bB
 ·obtain⟨A,S,ZU,Y⟩:=fN B;clear ZU;refine ib ?_;intro Q Z9 T;subst T;refine kn ?_;intro j L R;refine iX ?_;intro ZZ Z1 K N P;have ZY:U (∀p,p<b->0<=O (bN (λ w x=>w&&&x) n o b b b) p /\ O (bN (λ w x=>w&&&x) n o b b b) p<=4000000000000000000):= λ p _=>by
   exact n8
  have Z4:U (ck (λ w x=>w&&&x) g n q o=bh g (bN (λ w x=>w&&&x) n o b b b)):=by rw[U];unfold ck;rw[B,Q.o,Z9.o];rfl
  rw[Z4.o];clear Y L R j;go_enter func122,ntmps122;go_wp2_with fail;refine hj ?_;refine iW ?_;intro u i c d e f D G C H l;refine m5 ?_;intro Z7 W;clear i;go_wp2;go_region_held3 (λ Z5=>Z5.cell? (ad a.heap.size 0)=Z (M g) /\ Z5.cell? (ad a.heap.size 1)=Z (aa s b y) /\ Z5.cell? (ad (a.heap.size+1) 0)=Z (M q) /\ Z5.cell? (ad (a.heap.size+1) 1)=Z (aa t b z)) (first | (refine⟨by assumption,by assumption,by assumption,by assumption⟩;done) | (refine⟨by simp[*],by simp[*],by simp[*],by simp[*]⟩;done) | go_keep) (first | (go_at_call 219;refine(qn g q _ _ _ _ _ _ n o _ ((Z8.below l).below (bI _)) ((Z6.below l).below (bI _)) K aZ N.o P.o).mono ?_;rintro V ZF ⟨⟨ZO,rfl,ZV⟩,ZX⟩;obtain⟨ZM,ZP,ZK,rfl,Z2⟩:=ZV.ints;have ZW:ZP=b:=(by rw[<- Z2.len];exact jj _ _ _ _ _ _);subst ZW;have k:=au (bI u) ZX;have ZT:=ag k D;have ZS:=ag k G;have ZR:=ag k C;have ZQ:=ag k H;have e:=aB k c e;have f:=aB k d f;have c:=ag k c;have d:=ag k d) | (go_at_call 218;refine(jl g _ _ _ _ _ Z2 K ZY.o).mono ?_;rintro V ZE ⟨⟨ZO,rfl,Z3⟩,v⟩;obtain⟨ZN,ZG,ZL,rfl,ZI⟩:=Z3.ints;have r:=au k v;have ZT:=ag r D;have ZS:=ag r G;have ZR:=ag r C;have ZQ:=ag r H;have e:=aB v c e;have f:=aB v d f;have c:=ag v c;have d:=ag v d));all_goals
   have ZJ:=au l r;have ZH:=k.size;go_wp2;refine aK (by simp[aJ,results122,go_sem,c,d]) I ⟨⟨_,I,((Z3.setBelow (by simp;omega) _).setBelow (by simp;omega) _).mono E⟩,?_⟩;exact bB
theorem tv (ZD ZC:F) (D G:aG) (g Z8 f Z7:J) (i j:ac) (a:af) (ZF:an a D g i) (ZY:an a G f j) (Zh:g<=16) (Zj:f<=g)
  (V:∀b,b<g->0<=O i b /\ O i b<=1000000) (W:∀b,b<f->0<=O j b /\ O j b<=1000000):
  db 81 #[am ZD D g Z8,am ZC G f Z7,aE ⟨#[97,110,100]⟩] a (bN (λ e d=>e&&&d) i j g f g):=by
 have Zp:=ZY.cap;have ZM:f<=16:=E;have ZP:=ab V;have Z9:=ab W;have ZS:=ab (jY (λ e d=>e&&&d) i j g g f ZM V W);clear V W;go_enter func81,ntmps81;go_wp2_with (at_make;refine e6 I _ _ I g _ _ I I I I E ?_;intro x ZZ y ZX;(have Z2:=aS y a.heap.size 1 (aa D g Z8));(have Z0:=aS y (a.heap.size+1) 1 (aa G f Z7)));have R:ap a x:=dz y;have ZU:av x (a.heap.size+1+1) (aq (a.heap.size+1+1) g g) (bE g 0):=by simpa using ZZ
 have ZT:a.heap.size+1+1<x.heap.size:=by simpa using ZX
 clear ZZ y ZX;go_loopw [8] (λ v wr=>∃b:J,b<=g /\ v=M b /\ av wr (a.heap.size+1+1) (aq (a.heap.size+1+1) g g) (bN (λ e d=>e&&&d) i j g f b) /\ Below (a.heap.size+1+1) x wr /\ a.heap.size+1+1<wr.heap.size) (λ v _=>g-(intOf v).toNat)
 case atStart=>exact⟨0,E,I,ZU,Below.refl _ _,ZT⟩
 case round =>
  obtain⟨b,ZN,rfl,n,m,ZE⟩:=hrel;refine l1 ?_;intro q;have Zx:=dL m E Z2;have Zw:=dL m E Z0;by_cases P:b<g
  ·have S:=ZP.o b P;have ZR:=ab (ZS.o b ZN);have w:U (bN (λ e d=>e&&&d) i j g f (b+1)=dh (λ e d=>e&&&d) i j b (bN (λ e d=>e&&&d) i j g f b) f):=rfl;obtain⟨p,o⟩:∃p,U (bN (λ e d=>e&&&d) i j g f b=p):=⟨_,I⟩;rw[o.o] at n;have Zk:U (p.length=g):=by rw[<- o.o];exact jj _ _ _ _ _ _
   have ZQ:U (∀c,c<=f->∀z,0<=O (dh (λ e d=>e&&&d) i j b p c) z /\ O (dh (λ e d=>e&&&d) i j b p c) z<=16000000000000*(b:F)+1000000000000*(c:F)):= λ c N z=>uc (λ e d=>e&&&d) i j b p _ f S Z9.o (by rw[<- o.o];exact ZR.o) c N z
   go_wp2;obtain⟨ZV,rfl⟩:∃ZV:af,ZV=wr:=⟨_,I⟩;go_loopw [9] (λ v Y=>∃c:J,c<=f /\ v=M c /\ av Y (a.heap.size+1+1) (aq (a.heap.size+1+1) g g) (dh (λ e d=>e&&&d) i j b p c) /\ Below (a.heap.size+1+1) x Y /\ a.heap.size+1+1<Y.heap.size) (λ v _=>f-(intOf v).toNat)
   case atStart=>exact⟨0,E,I,n,m,ZE⟩
   case round =>
    obtain⟨c,N,rfl,r,l,X⟩:=hrel;have Z6:ap a wr:=R.trans (l.mono E);have Zg:=dL l E Z2;have Zf:=dL l E Z0;by_cases Z3:c<f
    ·obtain⟨d,Ze,rfl,Zr,ZB,Zo⟩:=ZF.at Z6 P;obtain⟨Zv,Zd,rfl,Zq,ZA,Zn⟩:=ZY.at Z6 Z3;have Z1:=Z9.o c Z3;have ZG:=mq b c E E;have H:(λ e d=>e&&&d) b c<g:=jB kf P;obtain⟨s,C⟩:∃s:J,U ((λ e d=>e&&&d) b c=s):=⟨_,I⟩;rw[show (b&&&c:J)=s from C.o] at ZG;rw[C.o] at H;have Zi:=qX _ _ S.1 S.2 Z1.1 Z1.2;have Zs:=ZQ.o c N s;have Zl:(b:F)<=16:=E;have Zm:(c:F)<=16:=E;have Y0:U (dh (λ e d=>e&&&d) i j b p (c+1)=(dh (λ e d=>e&&&d) i j b p c).set s (O (dh (λ e d=>e&&&d) i j b p c) s+O i b*O j c)):=by rw[<- C.o];rfl
     obtain⟨K,Z4,_⟩:=r.cellAt H;have Zu:(0:F)<=(s:F):=E;have Zt:((s:J):F)<(g:F):=E;refine mS ?_;intro t u;have Zz:(0:F)<=(c:F):=E;have Zy:(c:F)<(f:F):=E;go_wp2;refine ei 19 ah ah (λ _ _ _ _ _ ZO=>ZO) ?_;refine dY ?_;repeat (first | go_big_quiet_step ((fail)) | quiet_step ((fail)))
     refine et ?_;intro L k;have B:=r.below k;replace Z4:=aB k K Z4;replace K:=ag k K;obtain⟨ZW,T,Z5,A⟩:=dC B H (O (dh (λ e d=>e&&&d) i j b p c) s+O i b*O j c);exact xy
    ·have Q:c=f:=E;exact sz
  ·exact sb
theorem u3 (Z4:ch) (v:J->J->J) (g q:F) (s t:aG) (m y b z:J) (n o:ac) (a:af) (Z8:an a s m n) (Z6:an a t b o)
  (Z3:∀k,cJ g n q o=ae->an k s m n->an k t b o->db 81 #[am g s m y,am q t b z,aE Z4] k (bN v n o m b m)):
  bp 292 #[am g s m y,am q t b z,aE Z4] a (ck v g n q o):=by
 have X:Below a.heap.size a (((a.alloc (al #[M g,aa s m y] 29)).alloc (al #[M q,aa t b z] 29)).alloc (al #[M 0,aa aj 0 0] 29)):=((az a _).alloc ar _).alloc bO _;cases B:cJ g n q o
 ·have Z5:=ab (oO (T:=v) B);rw[Z5.o];go_enter func292,ntmps292;go_wp2_with fail;refine jg ?_;refine iV ?_;intro u c d e f l;go_wp2;refine aK (v:=aL #[am 0 aj 0 0,aw ak]) (by simp[aJ,results292,go_sem,c,d]) I ⟨?_,?_⟩
  ·exact b1.no _ _
  ·exact bB
 ·obtain⟨A,S,ZY,Y⟩:=fN B;have ZJ:=ab ZY;clear ZY;refine ib ?_;intro Q Z9 T;subst T;have ZV:U (∀k,an k s b n->an k t b o->db 81 #[am g s b y,am q t b z,aE Z4] k (bN v n o b b b)):= λ k ZL ZK=>Z3 k B ZL ZK
  clear Z3;refine kn ?_;intro j L R;refine iX ?_;intro ZZ Z1 K N P;have ZW:U (∀p,p<b->0<=O (bN v n o b b b) p /\ O (bN v n o b b b) p<=4000000000000000000):= λ p _=>by
   have:=jY v n o b b b K N.o P.o b aZ p;omega
  have Z5:U (ck v g n q o=bh g (bN v n o b b b)):=by rw[U];unfold ck;rw[B,Q.o,Z9.o];rfl
  rw[Z5.o];clear Y L R j;go_enter func292,ntmps292;go_wp2_with fail;refine jg ?_;refine iW ?_;intro u i c d e f D G C H l;refine m5 ?_;intro Z7 W;clear i;have ZC:¬a.heap.size=a.heap.size+1+1:=E;go_wp2;go_region_held3 (λ k=>k.cell? (ad a.heap.size 0)=Z (M g) /\ k.cell? (ad a.heap.size 1)=Z (aa s b y) /\ k.cell? (ad (a.heap.size+1) 0)=Z (M q) /\ k.cell? (ad (a.heap.size+1) 1)=Z (aa t b z)) (first | (refine⟨by assumption,by assumption,by assumption,by assumption⟩;done) | (refine⟨by simp[*],by simp[*],by simp[*],by simp[*]⟩;done) | go_keep) (first | (go_at_call 81;refine(ZV.o _ ((Z8.below l).below (bI _)) ((Z6.below l).below (bI _))).mono ?_;rintro V Zz ⟨⟨ZM,rfl,ZS⟩,ZU⟩;obtain⟨ZH,ZN,ZF,rfl,ZX⟩:=ZS.ints;have ZT:ZN=b:=(by rw[<- ZX.len];exact jj _ _ _ _ _ _);subst ZT;have r:=au (bI u) ZU;have ZR:=ag r D;have ZQ:=ag r G;have ZP:=ag r C;have ZO:=ag r H;have e:=aB r c e;have f:=aB r d f;have c:=ag r c;have d:=ag r d) | (go_at_call 171;refine(hk g _ _ _ _ _ ZX K ZW.o).mono ?_;rintro V Zy ⟨⟨ZM,rfl,Z2⟩,x⟩;obtain⟨ZI,ZA,ZG,rfl,ZD⟩:=Z2.ints;have w:=au r x;have ZR:=ag w D;have ZQ:=ag w G;have ZP:=ag w C;have ZO:=ag w H;have e:=aB x c e;have f:=aB x d f;have c:=ag x c;have d:=ag x d));all_goals
   have ZE:=au l w;have ZB:=r.size;go_wp2;refine aK (by simp[aJ,results292,go_sem,c,d]) I ⟨⟨_,I,((Z2.setBelow (by simp;omega) _).setBelow (by simp;omega) _).mono E⟩,?_⟩;exact bB
theorem F8 (a b:F) (g i:aG) (l r k s:J) (d e:ac) (c:af) (v:an c g l d) (w:an c i k e):
  bp 292 #[am a g l r,am b i k s,aE ⟨#[97,110,100]⟩] c (ck (λ p q=>p&&&q) a d b e) :=
 u3 _ _ a b _ _ _ _ _ _ d e c v w λ o u m n=>by
  obtain⟨A,S,_,x⟩:=fN u;refine kn ?_;intro j L R;have y:=m.len;have z:=n.len;exact tv a b _ _ _ _ _ _ d e o m n E E (λ f t=>L f E) (λ f t=>R f E)
theorem tg (G i:F) (c d:aG) (g l f m:J) (j k:ac) (a:af) (v:an a c g j) (w:an a d f k):
  bp 192 #[am G c g l,am i d f m] a (ck (λ p r=>p&&&r) G j i k):=by
 have n:Below a.heap.size a (((a.alloc (al #[M G,aa c g l] 29)).alloc (al #[M i,aa d f m] 29)).alloc (al #[M 0,aa aj 0 0] 29)):=((az a _).alloc ar _).alloc bO _;go_enter func192,ntmps192;go_wp2_with fail;refine(F8 _ _ _ _ _ _ _ _ j k _ (v.below n) (w.below n)).mono ?_;rintro y o ⟨⟨D,rfl,b⟩,e⟩;obtain⟨q,x,s,rfl,C⟩:=b.ints;obtain⟨t,u,z,A⟩:=cj (a.heap.size+1+1) e ar;have B:ap a o:=dz e;replace b:av o (a.heap.size+1+1+1) (aa q x s) _:=b.mono ar;clear e;go_wp2;refine aK (by simp[aJ,results192,go_sem,t,u]) I ⟨⟨_,I,((b.setBelow ar _).setBelow ar _).mono E⟩,?_⟩;exact bB
theorem ry (b:F) (a:ac):(bh b a).parts.length<=a.length:=by
 unfold bh;split
 ·simp[bc.no]
 ·split<;>simp[bc.no]
def a9 (b:J->F) (e:ac) (c:J):F:=bx (λ a d=>d+b a*O e a) 0 c
theorem gV (b:J->F) (c:ac) (a:J):a9 b c (a+1)=a9 b c a+b a*O c a:=rfl
theorem BN {e f:J->F} (c:ac) (b:J) (d:∀a,a<b->e a*O c a=f a*O c a):a9 e c b=a9 f c b:=by
 exact ya
theorem Hu {c:J->F} {e f:ac} (b:J) (d:∀a,a<b->O e a=O f a):a9 c e b=a9 c f b:=by
 exact ya
theorem uN (d:J->F) (c:ac) (a b:J) (e:F) (h:a<b) (j:b<=c.length):a9 d (c.set a e) b=a9 d c b+d a*(e-O c a):=by
 induction b with
 | zero=>omega
 | succ b g =>
  rw[gV,gV,cO]
  by_cases f:a=b
  ·subst f;rw[a7 ⟨rfl,E⟩];have:a9 d (c.set a e) a=a9 d c a:=Hu a λ k i=>by rw[cO,aF E]
   rw[this,Int.mul_sub];omega
  ·rw[aF E,g E E];omega
theorem oZ (c:J->F) (b a:J):a9 c (bE b 0) a=0:=by
 induction a with
 | zero=>rfl
 | succ a d=>rw[gV,d,eF];simp
theorem uk (f:J->F) (b:J->J) (d:ac) (c a:J) (g:∀e,e<a->b e<c):a9 f (bF b d c a) c=a9 (λ e=>f (b e)) d a:=by
 induction a with
 | zero=>show a9 f (bE c 0) c=0;exact oZ _ _ _
 | succ a h =>
  show a9 f ((bF b d c a).set (b a) (O (bF b d c a) (b a)+O d a)) c=_
  rw[uN _ _ _ _ _ (g a E) (by rw[jV];exact bL _),h λ e i=>g e E,gV]
  have:O (bF b d c a) (b a)+O d a-O (bF b d c a) (b a)=O d a:=E
  rw[this]
theorem uO (b:ac) (a:J):a9 (λ _=>1) b a=cH b a:=by
 induction a with
 | zero=>rfl
 | succ a c=>rw[gV,c,jW,Int.one_mul]
theorem q9 {g h:J->F} (c:ac) (a:J) (e:∀b,b<a->0<=O c b) (d:∀b,b<a->O c b≠0->g b<=h b):a9 g c a<=a9 h c a:=by
 induction a with
 | zero=>exact fE _
 | succ a j =>
  have k:=j (λ b i=>e b E) (λ b i=>d b E)
  have l:g a*O c a<=h a*O c a:=by
   by_cases f:O c a=0
   ·rw[f];simp
   ·exact vc (d a E f) (e a E)
  rw[gV,gV];omega
theorem CU (d:J->F) (c:ac) (b:F) (a:J) (k:a<=c.length) (f:∀e,e<a->b∣O c e):b*a9 d (c.map (· /b)) a=a9 d c a:=by
 induction a with
 | zero=>simp[a9,bx]
 | succ a i =>
  rw[gV,gV,Int.mul_add,i E λ e j=>f e E,uP _ _ _ E]
  have g:b*(O c a/b)=O c a:=Int.mul_ediv_cancel' (f a E)
  have h:b*(d a*(O c a/b))=d a*(b*(O c a/b)):=by ac_rfl
  rw[h,g]
theorem FS (c:ac) (b:J):es c b=0↔∀a,a<b->O c a=0:=by
 induction b with
 | zero=>exact⟨λ _ a e=>E,λ _=>rfl⟩
 | succ b f =>
  rw[ll]
  constructor
  ·intro d;have h:ee (es c b) (O c b)=0:=E;obtain⟨i,j⟩:=Int.gcd_eq_zero_iff.1 h;intro a e;by_cases g:a=b
   ·rw[g];exact j
   ·exact f.1 i a E
  ·intro d;rw[f.2 λ a e=>d a E,d b E];rfl
theorem tF (e:ac) (c:F) (a:J) (d:∀b,b<a->c∣O e b):c∣es e a:=by
 induction a with
 | zero=>exact Int.dvd_zero c
 | succ a f=>rw[ll];exact Int.dvd_coe_gcd (f λ b g=>d b E) (d a E)
theorem Ml (a:ac) (p:bT a≠0):bT (a.map (· /bT a))=1:=by
 have t:0<=bT a:=jm _ _;have o:∀c,c<a.length->bT a∣O a c:=lm a a.length;obtain⟨b,h⟩:∃b,bT a=b:=⟨_,I⟩;obtain⟨d,g⟩:∃d,bT (a.map (· /bT a))=d:=⟨_,I⟩;have s:0<=d:=by rw[<- g];exact jm _ _
 have n:∀c,c<a.length->d∣O a c/b:= λ c e=>by
  have:=lm (a.map (· /bT a)) (a.map (· /bT a)).length c (by simpa using e);rw[uP _ _ _ e] at this;rw[<- g,<- h];exact this
 have j:b*d∣b:=by
  have:b*d∣bT a:=tF a (b*d) a.length λ c e=>by
   obtain⟨m,i⟩:=n c e;have k:=o c e;rw[h] at k;have f:b*(O a c/b)=O a c:=Int.mul_ediv_cancel' k;exact⟨m,by rw[<- f,i];ac_rfl⟩
  rwa [h] at this
 have l:0<b:=E;have f:b*d<=b:=Int.le_of_dvd l j;have q:d≠0:=by
  rintro rfl;obtain⟨m,i⟩:=j;simp at i;omega
 have r:d<=1:=by
  have:b*d<=b*1:=by rw[Int.mul_one];exact f
  exact Int.le_of_mul_le_mul_left this l
 rw[g];omega
theorem nL (a:ac):aW a=a9 (λ _=>1) a a.length:=(uO a a.length).symm
theorem Hl (d:ac) (a:J) (e:∀b,b<a->0<=O d b) (b:J) (f:b<a):O d b<=cH d a:=by
 induction a with
 | zero=>omega
 | succ a g =>
  have j:0<=cH d a:=by
   clear g f;have:∀c,c<=a->0<=cH d c:= λ c=>by
    induction c with
    | zero=>intro _;exact fE _
    | succ c i=>intro k;rw[jW];have:=i E;have:=e c E;omega
   exact this a aZ
  rw[jW]
  by_cases h:b=a
  ·rw[h];omega
  ·have:=g (λ b f=>e b E) E;have:=e a E;omega
theorem Hm {b:F} {xs:ac} (t:bK b=ae) (p:xs.length=aH b) (g:∀a,a<xs.length->0<=O xs a) (y:1<=aW xs) (z:aW xs<=1000000):
  (bh b xs).ok=ae /\ bT xs≠0 /\ 1<=bT xs /\ (bh b xs).size=b /\ (bh b xs).parts=xs.map (· /bT xs) /\ aI b (bh b xs).parts=ae:=by
 have d:bT xs≠0:=by
  intro k;have v:=(FS xs xs.length).1 k;have:aW xs=0:=by
   have:∀c,c<=xs.length->cH xs c=0:= λ c=>by
    induction c with
    | zero=>intro _;rfl
    | succ c w=>intro f;rw[jW,w E,v c E];rfl
   exact this _ aZ
  omega
 have n:0<=bT xs:=jm _ _;have i:1<=bT xs:=E;have l:=lm xs xs.length;have j:bT xs*aW (xs.map (· /bT xs))=aW xs:=by
  rw[nL,nL,ec];exact CU _ _ _ _ aZ l
 have f:aI b (xs.map (· /bT xs))=ae:=by
  have s:∀a,a<xs.length->0<=O (xs.map (· /bT xs)) a /\ O (xs.map (· /bT xs)) a<=1000000:= λ a e=>by
   rw[uP _ _ _ e];have h:=g a e;have A:=Hl xs xs.length g a e;have B:O xs a/bT xs<=O xs a:=Int.ediv_le_self _ h;have C:=Int.ediv_nonneg h n;have:cH xs xs.length=aW xs:=rfl;omega
  have u:1<=aW (xs.map (· /bT xs)) /\ aW (xs.map (· /bT xs))<=1000000:=by
   have r:0<bT xs*aW (xs.map (· /bT xs)):=by rw[j];omega
   have D:=Int.pos_of_mul_pos_right r E;have q:1*aW (xs.map (· /bT xs))<=bT xs*aW (xs.map (· /bT xs)):=vc i E;rw[j] at q;omega
  unfold aI;rw[t,(cp _ _).2 λ x o=>bM.2 (s x (by simpa using o)),bM.2 u,Ml xs d,ec,p];simp
 have m:bh b xs=⟨b,xs.map (· /bT xs),ae⟩:=by unfold bh;rw[aF d,a7 f]
 rw[m];exact⟨I,d,i,I,I,f⟩
def df:ac->J->J
 | [],_=>0
 | b::c,a=>if bZ a b.toNat then 2^b.toNat else df c a
theorem F9 (d:ac) (b:J) (j:∃a,a∈d /\ bZ b a.toNat=ae):∃a,a∈d /\ bZ b a.toNat=ae /\ df d b=2^a.toNat:=by
 induction d with
 | nil=>obtain⟨a,g,_⟩:=j;cases g
 | cons c i o =>
  show ∃a,a∈c::i /\ bZ b a.toNat=ae /\ (if bZ b c.toNat then 2^c.toNat else df i b)=2^a.toNat
  cases h:bZ b c.toNat
  ·obtain⟨a,g,f⟩:=j;have n:a∈i:=by
    rcases List.mem_cons.1 g with e | e
    ·rw[e] at f;rw[f] at h;cases h
    ·exact e
   obtain⟨p,k,l,m⟩:=o ⟨a,n,f⟩;exact⟨p,kN _ k,l,m⟩
  ·exact⟨c,List.mem_cons_self,h,I⟩
theorem tO (d:ac) (b c:J) (f:∀a,a∈d->0<=a /\ a<b):df d c<2^b:=by
 induction d with
 | nil=>exact Nat.two_pow_pos b
 | cons e i h =>
  show (if bZ c e.toNat then 2^e.toNat else df i c)<2^b
  split
  ·have:=f e List.mem_cons_self;exact Nat.pow_lt_pow_right aX E
  ·exact h λ a g=>f a (kN _ g)
def ki (c d:ac) (a:J):ac:=bF (λ b=>df c b) d a a
def dQ (c:F) (a b:ac):bc:=bh c (ki b a a.length)
def iM (a:ac) (c:F):a8:= !bq (λ b=> !(O a b==c)) a.length
def iL (b:ac) (a:aU (ac)) (d:J):aU (ac):=bx (λ c a=>if iM b c then a else a++[b++[(c:F)]]) a d
def iF (d:J) (e:aU (ac)) (c:J):aU (ac):=bx (λ b a=>iL (aO e b) a d) [] c
def fA (c b:J):aU (ac):=bx (λ _ a=>iF c a a.length) [[]] b
def dq (a:J):aU (ac):=fA a a
theorem AK (b:ac) (c:aU (ac)) (a:J):iL b c (a+1)=if iM b (a:F) then iL b c a else iL b c a++[b++[(a:F)]]:=rfl
theorem Ad (b:J) (c:aU (ac)) (a:J):iF b c (a+1)=iL (aO c a) (iF b c a) b:=rfl
theorem Gm (a b:J):fA a (b+1)=iF a (fA a b) (fA a b).length:=rfl
theorem ux (c:ac) (b:aU (ac)) (a:J):(iL c b a).length<=b.length+a:=by
 induction a with
 | zero=>exact bL _
 | succ a d =>
  rw[AK]
  split
  ·omega
  ·rw[dm];simp;omega
theorem BO (b:J) (c:aU (ac)) (a:J):(iF b c a).length<=b*a:=by
 induction a with
 | zero=>simp[iF,bx]
 | succ a d =>
  rw[Ad,Nat.mul_succ]
  have:=ux (aO c a) (iF b c a) b
  omega
def CV (b a:J):a8:=decide ((fA b a).length<=24)&&decide (1<=(fA b a).length)&&bq (λ c=>((aO (fA b a) c).length==a)&&bq (λ d=>bi 0 ((b:F)-1) (O (aO (fA b a) c) d)) a) (fA b a).length
theorem Od:∀b a:Fin 5,a.val<=b.val->CV b.val a.val=ae:=cS
theorem mj {b a:J} (g:b<=4) (f:a<=b):(fA b a).length<=24 /\ 1<=(fA b a).length /\ ∀d,d<(fA b a).length->(aO (fA b a) d).length=a /\ ∀e,e<a->0<=O (aO (fA b a) d) e /\ O (aO (fA b a) d) e<=(b:F)-1:=by
 have c:=Od ⟨b,E⟩ ⟨a,E⟩ f;simp only[CV,b9,hB,cp,cR,bM] at c;exact⟨c.1.1,c.1.2,c.2⟩
def g5 (b:J) (c:ac):Prop:=(∀a,a∈c->0<=a /\ a<b) /\ ∀d,d<b->(d:F)∈c
def jO (a:J) (b:ac):a8:=b.all (λ c=>bi 0 ((a:F)-1) c)&&(cN a).all λ d=>b.contains (d:F)
theorem uR {g:J} {h:ac}:jO g h=ae↔g5 g h:=by
 unfold jO g5;rw[b9,List.all_eq_true,List.all_eq_true];constructor
 ·rintro⟨a,b⟩;exact⟨λ e c=>by have:=bM.1 (a e c);omega,λ f d=>by simpa using b f (by simpa using d)⟩
 ·rintro⟨a,b⟩;exact⟨λ e c=>bM.2 (by have:=a e c;omega),λ f d=>by simpa using b f (by simpa using d)⟩
theorem Ny:∀a:Fin 5,(dq a.val).all (jO a.val)=ae:=cS
theorem ul {a:J} (d:a<=4) {b:ac} (c:b∈dq a):g5 a b:=by
 have:=Ny ⟨a,E⟩;rw[List.all_eq_true] at this;exact uR.1 (this b c)
theorem nH {a:aU (ac)} {c:J} (b:c<a.length):aO a c∈a:=by
 unfold aO;rw[jH,fV b];exact List.getElem_mem b
theorem uy {b:aU (ac)} {d:ac} (f:d∈b):∃a,a<b.length /\ aO b a=d:=by
 obtain⟨a,c,e⟩:=kP f;exact⟨a,c,by unfold aO;rw[jH,fV c];exact e⟩
theorem Is (a:aU (ac)) (d:ac) {b:J} (c:b<a.length):aO (a++[d]) b=aO a b:=by
 unfold aO;rw[jH,jH,List.getElem?_append_left c]
theorem It (a:aU (ac)) (b:ac):aO (a++[b]) a.length=b:=by
 unfold aO;rw[jH,List.getElem?_append_right aZ];simp
def j8 (a:aU (ac)) (c:ac):a8:= !bq (λ b=> !decide (aO a b=c)) a.length
theorem Mm {a:aU (ac)} {e:ac}:j8 a e=ae↔e∈a:=by
 unfold j8;rw[Bool.not_eq_true'];constructor
 ·intro c;obtain⟨b,d,f⟩:=ii c;simp at f;rw[<- f];exact nH d
 ·intro c;obtain⟨b,d,g⟩:=uy c;cases h:bq (λ b=> !decide (aO a b=e)) a.length
  ·rfl
  ·have:=(cp _ _).1 h b d;simp[g] at this
def gu (d:F) (e:ac) (c:aU (ac)) (f:J):aU (ac):=bx (λ b a=>if j8 a (dQ d e (aO c b)).parts then a else a++[(dQ d e (aO c b)).parts]) [] f
theorem qw (c:F) (d:ac) (b:aU (ac)) (a:J):gu c d b (a+1)=if j8 (gu c d b a) (dQ c d (aO b a)).parts then gu c d b a else gu c d b a++[(dQ c d (aO b a)).parts]:=rfl
def co (a:F) (b:ac):aU (ac):=if ci a b then gu a b (dq a.toNat) (dq a.toNat).length else []
theorem ua (c:F) (d:ac) (b:aU (ac)) (a:J):(gu c d b a).length<=a:=by
 induction a with
 | zero=>exact bL _
 | succ a e =>
  rw[qw]
  split
  ·omega
  ·rw[dm];simp;omega
theorem Bh {i:F} {j:ac} {g:aU (ac)} {d:J} {h:ac}:h∈gu i j g d↔∃b,b<d /\ (dQ i j (aO g b)).parts=h:=by
 induction d with
 | zero=>exact⟨λ a=>by simp[gu,bx] at a,λ ⟨b,e,_⟩=>E⟩
 | succ d f =>
  rw[qw]
  constructor
  ·intro a;split at a
   ·obtain⟨b,e,c⟩:=f.1 a;exact⟨b,E,c⟩
   ·rcases List.mem_append.1 a with a | a
    ·obtain⟨b,e,c⟩:=f.1 a;exact⟨b,E,c⟩
    ·exact⟨d,E,(List.mem_singleton.1 a).symm⟩
  ·rintro⟨b,e,c⟩;by_cases k:b=d
   ·subst k;split
    ·rename_i a;rw[<- c];exact Mm.1 a
    ·rw[<- c];exact List.mem_append_right _ ar
   ·have:=f.2 ⟨b,E,c⟩;split
    ·exact this
    ·exact List.mem_append_left _ this
theorem qx (b:F) (c:ac):(co b c).length<=24:=by
 unfold co;split
 ·rename_i a;have e:=ua b c (dq b.toNat) (dq b.toNat).length;have d:b.toNat<=4:=by
   have:=(bt (by simp only[ci,b9] at a;exact a.1)).1;rcases cG.1 this with a | a | a | a<;>omega
  have f:=(mj d aZ).1;unfold dq at *;omega
 ·simp
end Go.Proofs.YtkjnhlpccgjfhaaGreatDoor
