/- A part of the proof: lemmas (my texts, shortened by a program of mine). -/
import Derived.Test.YtkjnhlpccgjfhaaGreatDoorC33
set_option linter.all false
set_option maxRecDepth 100000
set_option maxHeartbeats 4000000
namespace Go.Proofs.YtkjnhlpccgjfhaaGreatDoor
open Go.RowKit
open Go.Proofs.Tryz
open Bool renaming and_eq_true->b9,false->ak,true->ae,true_and->eo
open _root_.ByteArray renaming mk->aN
open Go renaming Calls->aY,Value->ay,World->af,wpQuiet_nil->dn
open Go.Ending renaming returned->aV
open Go.Lib renaming cut->h4
open Go.Obj renaming cells->al
open Go.Value renaming agg->ba,bool->aw,int->ed,slice->aa,string->aE,tuple->aL
open Go.World renaming cell?_setCell_other->c3,cell?_setCell_same->fZ
open Go.World.ownsRow renaming cells->iN
open List renaming getElem?_eq_getElem->fV,getElem?_map->jE
open Nat renaming le_trans->ez,lt_of_lt_of_le->cm
open Option renaming none->aj,some->Z
open Or renaming inl->bj,inr->aP
open _root_ renaming Int->F,List->aU,Nat->J,absurd->bC,beq_eq_false_iff_ne->dx,congrArg->be,decide_eq_true_eq->hB,if_neg->aF,if_pos->a7,rfl->I
variable {p q:Prop}
theorem mn (a:aR) {u:ax} {p:FuncId} {d:bc} (n:(ai u=aN #[97,110,100] /\ p=122) \/ (ai u=aN #[111,114] /\ p=123) \/ (ai u=aN #[120,111,114] /\ p=124) \/ (ai u=aN #[106,111,105,110] /\ p=125) \/ (ai u=aN #[121,97,103,101,114] /\ p=126) \/ (ai u=aN #[112,97,105,114] /\ p=135) \/ (ai u=aN #[112,97,115,115] /\ p=136)) (L:∀(e x:aG) (ZY f B y:J) b,av b 0 (aa e ZY f) a.xs->av b 0 (aa x B y) a.ys->bp p #[am a.s e ZY f,am a.t x B y] b d):e0 u a (bf a d).1 (bf a d).2:=by
 have M:=ab L;clear L;intro Z1 k q v Y E K A o;have g:=o.desk;obtain⟨e,ZY,f,R,i,V⟩:=g.m;obtain⟨x,B,y,S,j,W⟩:=g.n;refine sV ?_;intro i j r s t G H w;have Q:U (∀b,ap k b->bp p #[am a.s e ZY f,am a.t x B y] b d):= λ b N=>M.o _ _ _ _ _ _ b (i.below N) (j.below N)
 clear o g E A i j V W M;rcases n with ⟨n,rfl⟩ | ⟨n,rfl⟩ | ⟨n,rfl⟩ | ⟨n,rfl⟩ | ⟨n,rfl⟩ | ⟨n,rfl⟩ | ⟨n,rfl⟩
 all_goals
  rw[n];clear n;go_enter func49,ntmps49;go_wp2_with fail;go_region_with (first | ((first | go_at_call 122 | go_at_call 123 | go_at_call 124 | go_at_call 125 | go_at_call 126 | go_at_call 135 | go_at_call 136);refine(Q.o _ aD).mono ?_;rintro z l ⟨⟨Z2,rfl,m⟩,O⟩;obtain⟨C,F,D,rfl,Z8⟩:=m.ints;have c:ap k l:=Below.trans aD (O.mono aZ);have Z7:=ag c r;have Z6:=ag c R;have Z5:=ag c s;have Z4:=ag c S;have Z3:=ag c t) | (go_at_call 121;refine(w.o _ _ _ _ c m).mono ?_;rintro z Z0 ⟨rfl,T,P⟩));all_goals
   have X:=(bW.of_below (D:=q) (B:=v) c).trans P;clear P O;go_wp2;go_ret;exact⟨I,T,X⟩
theorem Nj (a:aR):e0 [97,110,100] a (bf a (ck (λ b c=>b&&&c) a.s a.xs a.t a.ys)).1 (bf a (ck (λ b c=>b&&&c) a.s a.xs a.t a.ys)).2 :=
 mn a (bj ⟨I,I⟩) λ g h k i l j d e f=>tt a.s a.t _ _ _ _ _ _ a.xs a.ys d e.view f.view
theorem Oa (a:aR):e0 [111,114] a (bf a (ck (λ b c=>b|||c) a.s a.xs a.t a.ys)).1 (bf a (ck (λ b c=>b|||c) a.s a.xs a.t a.ys)).2 :=
 mn a (aP (bj ⟨I,I⟩)) λ g h k i l j d e f=>Fc a.s a.t _ _ _ _ _ _ a.xs a.ys d e.view f.view
theorem Ol (a:aR):e0 [120,111,114] a (bf a (ck (λ b c=>b^^^c) a.s a.xs a.t a.ys)).1 (bf a (ck (λ b c=>b^^^c) a.s a.xs a.t a.ys)).2 :=
 mn a (aP (aP (bj ⟨I,I⟩))) λ g h k i l j d e f=>EN a.s a.t _ _ _ _ _ _ a.xs a.ys d e.view f.view
theorem NZ (a:aR):e0 [106,111,105,110] a (bf a (ij a.s a.xs a.t a.ys)).1 (bf a (ij a.s a.xs a.t a.ys)).2 :=
 mn a (aP (aP (aP (bj ⟨I,I⟩)))) λ e f i g j h b c d=>FG a.s a.t _ _ _ _ _ _ a.xs a.ys b c.view d.view
theorem MU (a:aR):e0 [121,97,103,101,114] a (bf a (iq a.s a.xs a.t a.ys)).1 (bf a (iq a.s a.xs a.t a.ys)).2 :=
 mn a (aP (aP (aP (aP (bj ⟨I,I⟩))))) λ e f i g j h b c d=>GB a.s a.t _ _ _ _ _ _ a.xs a.ys b c.view d.view
theorem N0 (a:aR):e0 [112,97,105,114] a (bf a (fC a.s a.xs a.t a.ys)).1 (bf a (fC a.s a.xs a.t a.ys)).2 :=
 mn a (aP (aP (aP (aP (aP (bj ⟨I,I⟩)))))) λ e f i g j h b c d=>z8 a.s a.t _ _ _ _ _ _ a.xs a.ys b c.view d.view
theorem N1 (a:aR):e0 [112,97,115,115] a (bf a (il a.s a.xs a.t a.ys)).1 (bf a (il a.s a.xs a.t a.ys)).2 :=
 mn a (aP (aP (aP (aP (aP (aP (⟨I,I⟩))))))) λ e f i g j h b c d=>Jz a.s a.t _ _ _ _ _ _ a.xs a.ys b c.view d.view
theorem uF (a:aR) {u:ax} {p:FuncId} {d:bc} (n:(ai u=aN #[99,117,116] /\ p=130) \/ (ai u=aN #[108,101,97,114,110] /\ p=131) \/ (ai u=aN #[102,111,99,117,115] /\ p=132)) (L:∀(e:aG) (ZY f:J) b,av b 0 (aa e ZY f) a.xs->bp p #[am a.s e ZY f,M a.a] b d):e0 u a (bf a d).1 (bf a d).2:=by
 have N:=ab L;clear L;intro Z0 k q v Z8 E K A o;have g:=o.desk;obtain⟨e,ZY,f,S,i,W⟩:=g.m;obtain⟨x,B,y,T,j,X⟩:=g.n;refine sV ?_;intro i j r s t G H w;have Q:U (∀b,ap k b->bp p #[am a.s e ZY f,M a.a] b d):= λ b R=>N.o _ _ _ b (i.below R)
 clear o g E A i j W X N;rcases n with ⟨n,rfl⟩ | ⟨n,rfl⟩ | ⟨n,rfl⟩
 all_goals
  rw[n];clear n;go_enter func49,ntmps49;go_wp2_with fail;go_region_with (first | ((first | go_at_call 130 | go_at_call 131 | go_at_call 132);refine(Q.o _ aD).mono ?_;rintro z l ⟨⟨Z1,rfl,m⟩,O⟩;obtain⟨C,F,D,rfl,Z7⟩:=m.ints;have c:ap k l:=Below.trans aD (O.mono aZ);have Z6:=ag c r;have Z5:=ag c S;have Z4:=ag c s;have Z3:=ag c T;have Z2:=ag c t) | (go_at_call 121;refine(w.o _ _ _ _ c m).mono ?_;rintro z ZZ ⟨rfl,V,P⟩));all_goals
   have Y:=(bW.of_below (D:=q) (B:=v) c).trans P;clear P O;go_wp2;go_ret;exact⟨I,V,Y⟩
theorem Om (a:aR) (G:a.Ok):e0 [99,117,116] a (bf a (fT a.s a.xs a.a)).1 (bf a (fT a.s a.xs a.a)).2 :=
 uF a (bj ⟨I,I⟩) λ d f e b c=>by
  refine jS ?_;intro X T;rw[T];exact H9 a.s X _ _ _ a.xs b c.view G.m
theorem MV (a:aR):e0 [108,101,97,114,110] a (bf a (eK a.s a.xs a.a)).1 (bf a (eK a.s a.xs a.a)).2 :=
 uF a (aP (bj ⟨I,I⟩)) λ d f e b c=>GT a.s a.a _ _ _ a.xs b c.view
theorem MW (a:aR) (G:a.Ok):e0 [102,111,99,117,115] a (bf a (gS a.s a.xs a.a)).1 (bf a (gS a.s a.xs a.a)).2 :=
 uF a (aP (aP (⟨I,I⟩))) λ d f e b c=>by
  refine jS ?_;intro X T;rw[T];exact GC a.s X _ _ _ a.xs b c.view G.m
theorem o7 (a:aR) {u:ax} {p:FuncId} {d:bc} (n:(ai u=aN #[110,111,116] /\ p=127) \/ (ai u=aN #[110,111,114,109,97,108] /\ p=128) \/ (ai u=aN #[115,104,97,114,101,100] /\ p=129) \/ (ai u=aN #[102,105,114,115,116] /\ p=133) \/ (ai u=aN #[115,101,99,111,110,100] /\ p=134)) (L:∀(e:aG) (ZY f:J) b,av b 0 (aa e ZY f) a.xs->bp p #[am a.s e ZY f] b d):e0 u a (bf a d).1 (bf a d).2:=by
 have M:=ab L;clear L;intro Z6 k q v Y E K A o;have g:=o.desk;obtain⟨e,ZY,f,N,i,V⟩:=g.m;obtain⟨x,B,y,O,j,W⟩:=g.n;refine sV ?_;intro i j r s t G H w;have R:U (∀b,ap k b->bp p #[am a.s e ZY f] b d):= λ b S=>M.o _ _ _ b (i.below S)
 clear o g E A i j V W M;rcases n with ⟨n,rfl⟩ | ⟨n,rfl⟩ | ⟨n,rfl⟩ | ⟨n,rfl⟩ | ⟨n,rfl⟩
 all_goals
  rw[n];clear n;go_enter func49,ntmps49;go_wp2_with fail;refine(R.o _ aD).mono ?_;rintro z l ⟨⟨Z7,rfl,m⟩,P⟩;obtain⟨C,F,D,rfl,Z8⟩:=m.ints;have c:ap k l:=Below.trans aD (P.mono aZ);replace r:=ag c r;replace N:=ag c N;replace s:=ag c s;replace O:=ag c O;replace t:=ag c t;go_wp2_with fail;refine(w.o _ _ _ _ c m).mono ?_;rintro z Z5 ⟨rfl,T,Q⟩;have X:=(bW.of_below (D:=q) (B:=v) c).trans Q;clear Q P;go_wp2;go_ret;exact⟨I,T,X⟩
theorem On (a:aR) (c:a.Ok):e0 [110,111,116] a (bf a ((⟨a.s,dv a.xs,ae⟩:bc))).1 (bf a ((⟨a.s,dv a.xs,ae⟩:bc))).2 :=
 o7 a (bj ⟨I,I⟩) λ e g f b d=>GU a.s _ _ _ a.xs b d.view c.m
theorem KZ (a:aR) (c:a.Ok):e0 [110,111,114,109,97,108] a (bf a (bh a.s (a.xs.set 0 0))).1 (bf a (bh a.s (a.xs.set 0 0))).2 :=
 o7 a (aP (bj ⟨I,I⟩)) λ e g f b d=>GA a.s _ _ _ a.xs b d c.m
theorem K0 (a:aR):e0 [115,104,97,114,101,100] a (bf a (gw a.s a.xs)).1 (bf a (gw a.s a.xs)).2 :=
 o7 a (aP (aP (bj ⟨I,I⟩))) λ d f e b c=>E2 a.s _ _ _ a.xs b c.view
theorem MX (a:aR):e0 [102,105,114,115,116] a (bf a (cf ak a.s a.xs)).1 (bf a (cf ak a.s a.xs)).2 :=
 o7 a (aP (aP (aP (bj ⟨I,I⟩)))) λ d f e b c=>AM a.s _ _ _ a.xs b c.view
theorem K1 (a:aR):e0 [115,101,99,111,110,100] a (bf a (cf ae a.s a.xs)).1 (bf a (cf ae a.s a.xs)).2 :=
 o7 a (aP (aP (aP (aP (⟨I,I⟩))))) λ d f e b c=>tG a.s _ _ _ a.xs b c.view
theorem In (a:aR):e0 [101,120,99,104,97,110,103,101] a (bd a.t a.ys) ⟨a.t,a.ys,a.s,a.xs,a.a,a.gg⟩:=by
 intro l k e n b j f g c;refine(IG (a.ds b) l k e j f g c.desk).mono ?_;rintro o m ⟨i,h,d⟩;exact⟨i,⟨b,c.span d h I⟩,bW.of_span d⟩
theorem dT.put5 {g:af} {c:J} {b:gT} (a:dT g c b) (f:ay):dT (g.setCell (ad c 5) f) c ⟨b.s,b.xs,b.t,b.ys,b.a,f⟩:=by
 obtain⟨h,p,j,l,m,d⟩:=a.m;obtain⟨i,q,k,n,o,e⟩:=a.n;refine⟨by simp;exact a.lt,?_,?_,?_,by simp[a.f0],by simp[a.f1],by simp[a.f2],by simp[a.f3],by simp[a.f4],⟨h,p,j,?_,m.setOther (a:=(ad c 5)) d _,d⟩,⟨i,q,k,?_,o.setOther (a:=(ad c 5)) e _,e⟩,fZ _ _ _ a.c5,by simp[a.f5]⟩
 ·exact(c3 _ _ _ _ ar).trans a.c0
 ·exact(c3 _ _ _ _ ar).trans a.c2
 ·exact(c3 _ _ _ _ ar).trans a.c4
 ·exact(c3 _ _ _ _ ar).trans l
 ·exact(c3 _ _ _ _ ar).trans n
theorem cY.empty (c:af) (a:J):cY c a (aa aj 0 0) []:=⟨⟨[],World.ownsRow_nil _ _ _ _,I,λ d e b=>by simp at b⟩⟩
theorem MY (a:aR):e0 [99,108,101,97,114] a [111,107] ⟨a.s,a.xs,a.t,a.ys,a.a,[]⟩:=by
 have j:U (ai [99,108,101,97,114]=aN #[99,108,101,97,114]):=ab I;intro s e b i n r p q d;rw[j.o];have c:=d.desk;have o:=c.c5;have m:=c.f5;have f:aA b (b+1) e (e.setCell (ad b 5) (aa aj 0 0)):=aA.set (by show b<=b /\ b<b+1;omega);have u:eY (e.setCell (ad b 5) (aa aj 0 0)) b i ⟨a.s,a.xs,a.t,a.ys,a.a,[]⟩ (aa aj 0 0):=⟨c.put5 _,cY.empty _ _,λ _=>rfl,d.lt,ez d.bw f.size⟩;obtain⟨t,g⟩:∃l,e.setCell (ad b 5) (aa aj 0 0)=l:=⟨_,I⟩;have k:=ab g;rw[g] at f u;clear g d c;go_enter func49,ntmps49;go_wp2;go_ret;rw[k.o];exact⟨I,⟨_,u⟩,bW.of_span f⟩
theorem Oo (O:ep) (c:aR) (N:c.Ok) (d:ax) (e:d.length<=100000):e0 d c (iI O c d).1 (iI O c d).2:=by
 by_cases t:d=[97,110,100]
 ·subst t;exact Nj c
 by_cases B:d=[111,114]
 ·subst B;exact Oa c
 by_cases G:d=[120,111,114]
 ·subst G;exact Ol c
 by_cases x:d=[106,111,105,110]
 ·subst x;exact NZ c
 by_cases H:d=[121,97,103,101,114]
 ·subst H;exact MU c
 by_cases A:d=[110,111,116]
 ·subst A;exact On c N
 by_cases z:d=[110,111,114,109,97,108]
 ·subst z;exact KZ c N
 by_cases F:d=[115,104,97,114,101,100]
 ·subst F;exact K0 c
 by_cases u:d=[99,117,116]
 ·subst u;exact Om c N
 by_cases y:d=[108,101,97,114,110]
 ·subst y;exact MV c
 by_cases w:d=[102,111,99,117,115]
 ·subst w;exact MW c N
 by_cases v:d=[102,105,114,115,116]
 ·subst v;exact MX c
 by_cases E:d=[115,101,99,111,110,100]
 ·subst E;exact K1 c
 by_cases C:d=[112,97,105,114]
 ·subst C;exact N0 c
 by_cases D:d=[112,97,115,115]
 ·subst D;exact N1 c
 by_cases b:d=[101,120,99,104,97,110,103,101]
 ·subst b;exact In c
 by_cases a:d=[99,108,101,97,114]
 ·subst a;exact MY c
 by_cases m:d=[108,101,102,116]
 ·subst m;exact fL e t B G x H A z F u y w v E C D b a (NU c)
 by_cases p:d=[114,105,103,104,116]
 ·subst p;exact fL e t B G x H A z F u y w v E C D b a (MS c)
 by_cases q:d=[115,101,116]
 ·subst q;exact fL e t B G x H A z F u y w v E C D b a (Ni c N)
 by_cases l:d=[107,105,110,100,115]
 ·subst l;exact fL e t B G x H A z F u y w v E C D b a (MT c N)
 by_cases f:d=[98,101,108,105,101,102]
 ·subst f;exact fL e t B G x H A z F u y w v E C D b a (KW c)
 by_cases o:d=[112,111,115,115,105,98,108,101]
 ·subst o;exact fL e t B G x H A z F u y w v E C D b a (Ij c N)
 by_cases g:d=[99,104,97,110,99,101]
 ·subst g;exact fL e t B G x H A z F u y w v E C D b a (KX c N)
 by_cases r:d=[115,105,122,101]
 ·subst r;exact fL e t B G x H A z F u y w v E C D b a (NV c N)
 by_cases i:d=[99,111,110,116,111,117,114]
 ·subst i;exact fL e t B G x H A z F u y w v E C D b a (Jj c N)
 by_cases Q:d=[99,111,110,102,108,105,99,116]
 ·subst Q;exact fL e t B G x H A z F u y w v E C D b a (Ik c)
 by_cases k:d=[100,105,115,116,97,110,99,101]
 ·subst k;exact fL e t B G x H A z F u y w v E C D b a (Il c)
 by_cases s:d=[115,112,101,99,105,97,108,105,122,101,100]
 ·subst s;exact fL e t B G x H A z F u y w v E C D b a (Gi O c)
 by_cases n:d=[108,101,115,115]
 ·subst n;exact fL e t B G x H A z F u y w v E C D b a (NW c)
 by_cases j:d=[99,111,114,110,101,114,115]
 ·subst j;exact fL e t B G x H A z F u y w v E C D b a (Jk c)
 by_cases L:d=[115,97,102,101,115,116]
 ·subst L;exact fL e t B G x H A z F u y w v E C D b a (KY c N)
 by_cases J:d=[98,111,108,100,101,115,116]
 ·subst J;exact fL e t B G x H A z F u y w v E C D b a (Jl c N)
 by_cases K:d=[101,118,101,110]
 ·subst K;exact fL e t B G x H A z F u y w v E C D b a (NX c N)
 by_cases M:d=[117,110,98,101,97,116,101,110]
 ·subst M;exact fL e t B G x H A z F u y w v E C D b a (Im c N)
 by_cases I:d=[98,101,115,116]
 ·subst I;exact fL e t B G x H A z F u y w v E C D b a (NY c N)
 have P:iI O c d=(iK,c):=by
  exact xv
 rw[P];exact fL e t B G x H A z F u y w v E C D b a (NT c m p q l f o g r i Q k s n j L J K M I)
def h7 (f d:ax) (e:aR) (c:ax) (b:aR):Prop:=∀a,h4 a [32]=(f,d,ae)->a.length<=100000->rM a e c b
def gH (i:FuncId) (n l:ax) (m:aR) (k:ax) (g:aR):Prop :=
 ∀(d b:af) (a c:J) (j:ay),dp d->d.heap.size<=a->ap d b->eY b a c m j ->
  aY prog i #[br a,aE (ai n),aE (ai l)] b λ h e=>h=aV (aE (ai k)) /\ (∃f,eY e a c g f) /\ bW a c b e
theorem Io (p:aR) {S:ax} {e:F} {j:ac} (W:aI e j=ae) (R:bd e j=S):h7 [108,101,102,116] S p [111,107] ⟨e,j,p.t,p.ys,p.a,p.gg⟩:=by
 refine mV ?_;intro o;have T:=ab R;clear R;refine ji ?_;intro q y B a m l A k x s d u v;go_enter func15,ntmps15;go_wp2_with fail;refine km ?_;intro C i f b g;clear i d;go_wp2_with fail;refine yT ?_;intro J r z t w O L D c N;clear b g;obtain⟨Z8,Z0,Z7,Z3,_,_⟩:=c.m;have Z4:=c.c0;have Z6:=c.f0;have Z5:=c.f1;have Z2:=c.lt;obtain⟨K,H⟩:∃X,(J.setCell (ad a 0) (M e)).setCell (ad a 1) (aa r z t)=X:=⟨_,I⟩;refine yH ?_;intro G;have V:eY K a m ⟨e,j,p.t,p.ys,p.a,p.gg⟩ l:=by
  have Q:=c.putM e j r z t (w.mono (Nat.zero_le _)) L;rw[H] at Q;exact D.span G Q I
 exact vT
theorem Jm (r:aR) {c:ax} (w:c.length<=100000) (e:∀p t,aI p t=ae->bd p t≠c):h7 [108,101,102,116] c r [110,111] r:=by
 refine mV ?_;intro o;exact xF
theorem Hw (p:aR) {S:ax} {e:F} {j:ac} (W:aI e j=ae) (R:bd e j=S):h7 [114,105,103,104,116] S p [111,107] ⟨p.s,p.xs,e,j,p.a,p.gg⟩:=by
 refine mW ?_;intro o;have T:=ab R;clear R;refine ji ?_;intro q y B a m l A k x s d u v;go_enter func15,ntmps15;go_wp2_with fail;refine km ?_;intro C i f b g;clear i d;go_wp2_with fail;refine yT ?_;intro J r z t w O L D c N;clear b g;obtain⟨Z8,Z0,Z7,Z3,_,_⟩:=c.n;have Z4:=c.c2;have Z6:=c.f2;have Z5:=c.f3;have Z2:=c.lt;obtain⟨K,H⟩:∃X,(J.setCell (ad a 2) (M e)).setCell (ad a 3) (aa r z t)=X:=⟨_,I⟩;refine yH ?_;intro G;have V:eY K a m ⟨p.s,p.xs,e,j,p.a,p.gg⟩ l:=by
  have Q:=c.putN e j r z t (w.mono (Nat.zero_le _)) L;rw[H] at Q;exact D.span G Q I
 exact vT
theorem Ip (r:aR) {c:ax} (w:c.length<=100000) (e:∀p t,aI p t=ae->bd p t≠c):h7 [114,105,103,104,116] c r [110,111] r:=by
 refine mW ?_;intro o;exact xF
theorem Jn (b:aR) {j:ax} {c:J} (p:eH j=Z c):h7 [115,101,116] j b [111,107] ⟨b.s,b.xs,b.t,b.ys,(c:F),b.gg⟩:=by
 refine m2 ?_;intro o;have z:=ab p;clear p;refine ji ?_;intro q y B a m l A k x s d u v;go_enter func15,ntmps15;go_wp2_with fail;refine pP ?_;rw[o.o];rintro C L ⟨rfl,f⟩;have r:=d.below f;have t:=bW.of_below (D:=a) (B:=m) f;clear f d;go_wp2_with fail;refine(tI j _).mono ?_;rw[z.o];rintro C n ⟨rfl,g⟩;have i:=r.below g;have e:=i.desk;have G:=t.trans (bW.of_below g);have K:=e.c4;have H:=e.f4;have w:aA a (a+1) n (n.setCell (ad a 4) (M (c:F))):=aA.set (by show a<=a /\ a<a+1;omega);have D:eY (n.setCell (ad a 4) (M (c:F))) a m ⟨b.s,b.xs,b.t,b.ys,(c:F),b.gg⟩ l:=i.span w (e.putA (c:F)) I;clear g r t i e;go_wp2;go_ret;exact⟨I,⟨l,D⟩,G.trans (bW.of_span w)⟩
theorem K2 (i:aR) {e:ax} (f:eH e=aj):h7 [115,101,116] e i [110,111] i:=by
 refine m2 ?_;intro o;have n:=ab f;clear f;refine ji ?_;intro q y B a m l A k x s d u v;go_enter func15,ntmps15;go_wp2_with fail;refine pP ?_;rw[o.o];rintro p r ⟨rfl,c⟩;have b:=d.below c;have g:=bW.of_below (D:=a) (B:=m) c;clear c d;go_wp2_with fail;refine(tI e _).mono ?_;rw[n.o];rintro p t ⟨rfl,j⟩;exact xQ
theorem MZ (c:aR) (S:c.Ok) (e:ax):h7 [116,97,98,108,101] e c (if dl c.xs e=[] then cs c else (b2 (dl c.xs e),c)).1 (if dl c.xs e=[] then cs c else (b2 (dl c.xs e),c)).2:=by
 have o:U (ai [116,97,98,108,101]=aN #[116,97,98,108,101]):=ab I;have X:U (∀(r:aG) (t w:J) N,an N r t c.xs->db 52 #[am c.s r t w,aE (ai e)] N (dl c.xs e)):= λ r t w N Z0=>If c.s r t w c.xs e N Z0 S.m
 have W:=ab (rm S.m e);generalize dl c.xs e=R at *;clear S;by_cases P:R=[]
 ·subst P;have Q:U ((if ([]:ac)=[] then cs c else (b2 [],c))=cs c):=a7 I;rw[Q.o];refine ji ?_;intro q y B a m l A k x s d u v;go_enter func15,ntmps15;go_wp2_with fail;refine km ?_;intro C i f b g;clear i d;have p:=b.desk;obtain⟨ZV,Z4,Z9,Z7,M,V⟩:=p.m;have Z8:=p.c0;have Z5:=p.lt;have T:=M.view;clear p M V;go_wp2_with fail;refine(X.o _ _ _ _ T).mono ?_;rintro n Z2 ⟨⟨Z3,rfl,O⟩,j⟩;obtain⟨r,t,w,rfl,D⟩:=O.ints;have Y:=D.len;subst Y;refine m8 ?_;intro G K;clear j b g O D;exact n9
 ·have Q:U ((if R=[] then cs c else (b2 R,c))=(b2 R,c)):=aF P;have ZX:1<=R.length:=by cases R with | nil=>exact bC I P | cons r ZZ=>simp
  rw[Q.o];clear P;refine ji ?_;intro q y B a m l A k x s d u v;go_enter func15,ntmps15;go_wp2_with fail;refine km ?_;intro C i f b g;clear i d;have p:=b.desk;obtain⟨ZV,Z4,Z9,Z7,M,V⟩:=p.m;have Z8:=p.c0;have Z5:=p.lt;have T:=M.view;clear p M V;go_wp2_with fail;refine(X.o _ _ _ _ T).mono ?_;rintro n Z2 ⟨⟨Z3,rfl,O⟩,j⟩;obtain⟨r,t,w,rfl,D⟩:=O.ints;have Y:=D.len;have ZY:((t:F)==0)=ak:=by rw[dx];omega
  have Z6:=f.trans (j.mono f.size);go_wp2_with fail;refine(nc _ _ _ _ _ D W.o.1 (by have:=W.o.2;omega) (k.below Z6).pow).mono ?_;rintro n ZW ⟨rfl,z⟩;refine p2 ?_;intro H L;clear j z b g;exact r2
theorem GF (t:aR) {p:ax} (ZK:p.length<=100000) {w:F} (Z5:cg p=Z w):h7 [114,101,103,114,101,116] p t (cM (fw t.s t.xs t.gg w)) t:=by
 refine p5 ?_;intro o;obtain⟨K,Z6,ZR,Q⟩:=Lj Z5;obtain⟨e,T⟩:∃e,fw t.s t.xs t.gg w=e:=⟨_,I⟩;rw[T];have ZZ:=ab T;have P:=ab Z6;have Y:Lib.atoiAll (ai p).data.toList=.ok w:=by rw[cE];exact K
 have Z0:U (∀c,aC 54 #[aE (ai p)] c (aL #[M w,.nilIface])):= λ c=>kE (ai p) w Y (by rw[bs];omega) c
 refine yQ ?_;intro O;have ZJ:¬(17:F)<((ai (iH p)).size:J):=by rw[bs];omega
 clear T K Y Z6 ZR Z5;refine ji ?_;intro q y B a m l A k x s d u v;go_enter func15,ntmps15;go_wp2_with fail;refine km ?_;intro C i f b g;clear i d;go_wp2_with fail;refine(Z0.o _).mono ?_;rintro n ZH ⟨rfl,j⟩;have D:=f.trans (j.mono f.size);go_wp2_with fail;refine sF ?_;rintro n ZQ ⟨rfl,z⟩;have Z9:=D.trans (z.mono D.size);go_wp2_with fail;refine(O.o _).mono ?_;rintro n c ⟨rfl,rfl⟩;refine p2 ?_;intro H L;have Z4:=k.below Z9;have N:=H.desk;obtain⟨W,Z2,ZY,ZN,Z3,ZT⟩:=N.m;obtain⟨R,ZI,X,Z8,ZU,K⟩:=H.rows.form;subst ZU;have ZM: ZQ.cell? (ad a 5)=Z (aa R t.gg.length X):=by rw[<- Z8];exact N.c5
 have ZO: ZQ.cell? (ad a 0)=Z (M t.s):=N.c0;have ZL:=N.lt;have Z7:an ZQ W Z2 t.xs:=Z3.view;have V:U (∀c,an c W Z2 t.xs->dj c R t.gg.length t.gg->aC 58 #[am t.s W Z2 ZY,aa R t.gg.length X,M w] c (bz e.num e.den e.ok)):= λ c ZX ZW=>by rw[<- ZZ.o];exact G4 t.s w _ _ _ _ _ _ t.xs t.gg c ZX ZW
 refine lZ ?_;intro r;clear j z b g f D Z9 N Z3 ZT Z8;go_wp2_with fail;refine cC ?_;repeat (first | go_big_quiet_step ((first | (go_at_call 58;(with_reducible exact aQ (V.o _ (Z7.below (aM _ _)) (K.below (aM _ _))))) | (go_at_call 57;(with_reducible exact aQ (r.o _ (Z4.below (aM _ _))))))) | quiet_step ((first | (go_at_call 58;(with_reducible exact aQ (V.o _ (Z7.below (aM _ _)) (K.below (aM _ _))))) | (go_at_call 57;(with_reducible exact aQ (r.o _ (Z4.below (aM _ _))))))))
 refine dn ?_;refine dg ?_;intro ZG S;have ZV:=H.below S;have ZS:=L.trans (bW.of_below S);clear H L S;go_wp2;go_ret;exact⟨I,⟨l,ZV⟩,ZS⟩
theorem Hx (W:aR) {p:ax} (Z6:p.length<=100000) (t:cg p=aj):h7 [114,101,103,114,101,116] p W [110,111] W:=by
 refine p5 ?_;intro o;have V:(ai p).size<=1048576:=by rw[bs];omega
 refine ji ?_;intro q y B a m l A k x s d u v;by_cases e:∃N,Lib.atoiAll (ai p).data.toList=.ok N
 case neg =>
  have S:= λ c Y=>ml (ai p) (λ N n=>e ⟨N,n⟩) V c Y
  clear e t;go_enter func15,ntmps15;go_wp2_with fail;refine km ?_;intro C i f b g;clear i d;go_wp2_with fail;refine(S _ (k.below f)).mono ?_;rintro n X ⟨Z4,Z7,rfl,j⟩;refine m8 ?_;intro G K;clear j b g S;exact n9
 case pos =>
  obtain⟨w,e⟩:=e;have T:= λ c=>kE (ai p) w e V c
  rw[cE] at e;have Q:=A7 e;refine yQ ?_;intro O;by_cases r:Lib.itoa w=p
  ·have Z9:=LA t r;have Z5:(17:F)<((ai (iH p)).size:J):=by rw[bs];omega
   have P:=ab r;clear e t r Z9;go_enter func15,ntmps15;go_wp2_with fail;refine km ?_;intro C i f b g;clear i d;go_wp2_with fail;refine(T _).mono ?_;rintro n X ⟨rfl,j⟩;have D:=f.trans (j.mono f.size);go_wp2_with fail;refine sF ?_;rintro n Z8 ⟨rfl,z⟩;go_wp2_with fail;refine(O.o _).mono ?_;rintro n c ⟨rfl,rfl⟩;exact x6
  ·have Z:=j5 r;clear e t r;obtain⟨R,M⟩:∃R,Lib.itoa w=R:=⟨_,I⟩;have P:=ab M;rw[M] at Z;clear M;go_enter func15,ntmps15;go_wp2_with fail;refine km ?_;intro C i f b g;clear i d;go_wp2_with fail;refine(T _).mono ?_;rintro n X ⟨rfl,j⟩;have D:=f.trans (j.mono f.size);go_wp2_with fail;refine sF ?_;rintro n Z8 ⟨rfl,z⟩;exact x6
theorem lH {b r:ax} {s e:aR} {q:ax} (a:ai b=aN #[100,105,115,99,111,117,110,116] \/ ai b=aN #[114,101,108,105,97,98,108,101] \/ ai b=aN #[109,105,120] \/ ai b=aN #[115,105,109,112,108,101]) (j:gH 59 b r s q e):h7 b r s q e:=by
 have J:=ab j;clear j;rcases a with a | a | a | a
 all_goals
  intro u k F C G g f w p x d l;have t:=ab k;have B:=d.size;clear k;go_enter func15,ntmps15;go_wp2_with fail;refine(kv u 32 _ _ _ t.o E _ (p.below d)).mono ?_;rw[a];rintro v D ⟨rfl,c⟩;have y:=d.trans (c.mono B);have m:=l.below c;have n:=bW.of_below (D:=g) (B:=f) c;clear c l;have i:=ab (J.o C D g f w p x y m);rw[a] at i;clear J m;go_wp2_with fail;refine i.o.mono ?_;rintro v H ⟨rfl,z,o⟩;have A:=n.trans o;clear n o;go_wp2;go_ret;exact⟨I,z,A⟩
theorem hR {b r:ax} {s e:aR} {q:ax} (a:ai b=aN #[109,111,118,101] \/ ai b=aN #[99,111,114,110,101,114] \/ ai b=aN #[108,101,118,101,108,115] \/ ai b=aN #[111,117,116,101,114] \/ ai b=aN #[108,111,119,101,115,116] \/ ai b=aN #[104,105,103,104,101,115,116] \/ ai b=aN #[97,99,116]) (j:gH 60 b r s q e):h7 b r s q e:=by
 have J:=ab j;clear j;rcases a with a | a | a | a | a | a | a
 all_goals
  intro u k F C G g f w p x d l;have t:=ab k;have B:=d.size;clear k;go_enter func15,ntmps15;go_wp2_with fail;refine(kv u 32 _ _ _ t.o E _ (p.below d)).mono ?_;rw[a];rintro v D ⟨rfl,c⟩;have y:=d.trans (c.mono B);have m:=l.below c;have n:=bW.of_below (D:=g) (B:=f) c;clear c l;have i:=ab (J.o C D g f w p x y m);rw[a] at i;clear J m;go_wp2_with fail;refine i.o.mono ?_;rintro v H ⟨rfl,z,o⟩;have A:=n.trans o;clear n o;go_wp2;go_ret;exact⟨I,z,A⟩
theorem Nk {b L:ax} (H:aR) (j:b≠[108,101,102,116]) (C:b≠[114,105,103,104,116]) (D:b≠[115,101,116]) (G:b≠[116,97,98,108,101]) (w:b≠[114,101,103,114,101,116]) (g:b≠[100,105,115,99,111,117,110,116]) (z:b≠[114,101,108,105,97,98,108,101]) (p:b≠[109,105,120]) (F:b≠[115,105,109,112,108,101]) (r:b≠[109,111,118,101]) (f:b≠[99,111,114,110,101,114]) (n:b≠[108,101,118,101,108,115]) (t:b≠[111,117,116,101,114]) (o:b≠[108,111,119,101,115,116]) (i:b≠[104,105,103,104,101,115,116]) (e:b≠[97,99,116]):h7 b L H iK H:=by
 have R:=bn j;have Z:=bn C;have Z9:=bn D;have Z7:=bn G;have X:=bn w;have P:=bn g;have Y:=bn z;have U:=bn p;have Z8:=bn F;have V:=bn r;have O:=bn f;have S:=bn n;have W:=bn t;have T:=bn o;have Q:=bn i;have N:=bn e;clear j C D G w g z p F r f n t o i e;refine ji ?_;intro q y B a m l A k x s d u v;go_enter func15,ntmps15;go_wp2_with fail;refine pP ?_;rintro M Z6 ⟨rfl,c⟩;have J:=d.below c;have K:=bW.of_below (D:=a) (B:=m) c;clear c d;go_wp2;go_ret;exact⟨I,⟨l,J⟩,K⟩
theorem M0 {p D:ax} {o c:aR} {n:ax} (g:e0 p o n c):∀q,h4 q [32]=(p,D,ak)->q.length<=100000->rM q o n c:=by
 have e:=ab g;clear g;refine ji ?_;intro q y B a m l A k x s d u v;go_enter func15,ntmps15;go_wp2_with fail;refine pP ?_;rintro t F ⟨rfl,b⟩;have w:=s.trans (b.mono v);have f:=d.below b;have i:=bW.of_below (D:=a) (B:=m) b;clear b d;have r:=ab (e.o y F a m l k x w f);clear e f;go_wp2_with fail;refine r.o.mono ?_;rintro t G ⟨rfl,z,j⟩;have C:=i.trans j;clear i j;go_wp2;go_ret;exact⟨I,z,C⟩
theorem rF (r:ax) {a:ax} (f:aR) (o:a.length<=100000) (e:∀c d,bH c d=ae->bG c d≠a):gH 59 r a f [110,111] f:=by
 have j:=ab e;clear e;intro v u i w k q t l m;go_enter func59,ntmps59;go_wp2_with fail;refine(ET a _ o j.o (q.below l)).mono ?_;rintro s g ⟨rfl,b⟩;have n:=(m.below b).below (az g (al #[M 0,M 0] 55));have p:=(bW.of_below (D:=i) (B:=w) b).trans (bW.of_below (az g (al #[M 0,M 0] 55)));clear b;go_wp2;go_ret;exact⟨I,⟨k,n⟩,p⟩
theorem Iq {i:ax} (a:aR) (v:a.Ok) {c:F×F} (t:bH c.1 c.2=ae) (u:bG c.1 c.2=i):gH 59 [100,105,115,99,111,117,110,116] i a (bf a (cB a.s a.xs a.s (cX a.s (aH a.s-1)) c.1 c.2)).1 (bf a (cB a.s a.xs a.s (cX a.s (aH a.s-1)) c.1 c.2)).2:=by
 have Z5:U (ai [100,105,115,99,111,117,110,116]=aN #[100,105,115,99,111,117,110,116]):=ab I;have Z3:=v.m;obtain⟨j,l⟩:∃j,(cB a.s a.xs a.s (cX a.s (aH a.s-1)) c.1 c.2)=j:=⟨_,I⟩;refine pX ?_;intro m k;clear v l t u;intro ZU ZV p s ZZ r Z7 g n;have w:=g.size;rw[Z5.o];go_enter func59,ntmps59;go_wp2_with fail;refine pS ?_;intro d b q E;clear n g k;have z:=b.desk;refine l0 ?_;intro G K H V X W Q N S O o A P R T L;have Z6:U (∀e,ap d e->bp 159 #[am a.s G K H,ba #[M c.1,M c.2]] e j):= λ e v=>by rw[<- m.o];exact F1 a.s c.1 c.2 _ _ _ a.xs e (o.view.below v) Z3
 clear b z r E o A N O;go_wp2_with fail;go_region_with (first | (go_at_call 159;refine(Z6.o _ aD).mono ?_;rintro f C ⟨⟨ZW,rfl,D⟩,B⟩;obtain⟨Y,Z8,Z9,rfl,ZY⟩:=D.ints;have y:ap d C:=bJ B;have Z2:=D.mono (by simp<;>omega:d.heap.size<=_)) | (go_at_call 121;refine(L.o _ _ _ _ y Z2).mono ?_;rintro f ZT ⟨rfl,Z4,ZS⟩));all_goals
  have Z1:=(q.trans (bW.of_below (D:=p) (B:=s) y)).trans ZS;clear ZS B;go_wp2;go_ret;exact⟨I,Z4,Z1⟩
theorem Ir {i:ax} (a:aR) (v:a.Ok) {c:F×F} (t:bH c.1 c.2=ae) (u:bG c.1 c.2=i):gH 59 [114,101,108,105,97,98,108,101] i a (bf a (cB a.s a.xs a.s (dv a.xs) c.1 c.2)).1 (bf a (cB a.s a.xs a.s (dv a.xs) c.1 c.2)).2:=by
 have Z5:U (ai [114,101,108,105,97,98,108,101]=aN #[114,101,108,105,97,98,108,101]):=ab I;have Z3:=v.m;obtain⟨j,l⟩:∃j,(cB a.s a.xs a.s (dv a.xs) c.1 c.2)=j:=⟨_,I⟩;refine pX ?_;intro m k;clear v l t u;intro ZU ZV p s ZZ r Z7 g n;have w:=g.size;rw[Z5.o];go_enter func59,ntmps59;go_wp2_with fail;refine pS ?_;intro d b q E;clear n g k;have z:=b.desk;refine l0 ?_;intro G K H V X W Q N S O o A P R T L;have Z6:U (∀e,ap d e->bp 160 #[am a.s G K H,ba #[M c.1,M c.2]] e j):= λ e v=>by rw[<- m.o];exact F2 a.s c.1 c.2 _ _ _ a.xs e (o.view.below v) Z3
 clear b z r E o A N O;go_wp2_with fail;go_region_with (first | (go_at_call 160;refine(Z6.o _ aD).mono ?_;rintro f C ⟨⟨ZW,rfl,D⟩,B⟩;obtain⟨Y,Z8,Z9,rfl,ZY⟩:=D.ints;have y:ap d C:=bJ B;have Z2:=D.mono (by simp<;>omega:d.heap.size<=_)) | (go_at_call 121;refine(L.o _ _ _ _ y Z2).mono ?_;rintro f ZT ⟨rfl,Z4,ZS⟩));all_goals
  have Z1:=(q.trans (bW.of_below (D:=p) (B:=s) y)).trans ZS;clear ZS B;go_wp2;go_ret;exact⟨I,Z4,Z1⟩
theorem Oq {i:ax} (a:aR) (v:a.Ok) {c:F×F} (t:bH c.1 c.2=ae) (u:bG c.1 c.2=i):gH 59 [109,105,120] i a (bf a (cB a.s a.xs a.t a.ys c.1 c.2)).1 (bf a (cB a.s a.xs a.t a.ys c.1 c.2)).2:=by
 have Z5:U (ai [109,105,120]=aN #[109,105,120]):=ab I;obtain⟨j,l⟩:∃j,(cB a.s a.xs a.t a.ys c.1 c.2)=j:=⟨_,I⟩;refine pX ?_;intro m k;clear v l t u;intro ZV ZW p s Z1 r Z7 g n;have w:=g.size;rw[Z5.o];go_enter func59,ntmps59;go_wp2_with fail;refine pS ?_;intro d b q E;clear n g k;have z:=b.desk;refine l0 ?_;intro G K H V X W Q N S O o A P R T L;have Z6:U (∀e,ap d e->bp 161 #[am a.s G K H,am a.t V X W,ba #[M c.1,M c.2]] e j):= λ e v=>by rw[<- m.o];exact tw a.s a.t c.1 c.2 _ _ _ _ _ _ a.xs a.ys e (o.view.below v) (A.view.below v)
 clear b z r E o A N O;go_wp2_with fail;go_region_with (first | (go_at_call 161;refine(Z6.o _ aD).mono ?_;rintro f C ⟨⟨ZY,rfl,D⟩,B⟩;obtain⟨Y,Z8,Z9,rfl,ZZ⟩:=D.ints;have y:ap d C:=bJ B;have Z3:=D.mono (by simp<;>omega:d.heap.size<=_)) | (go_at_call 121;refine(L.o _ _ _ _ y Z3).mono ?_;rintro f ZU ⟨rfl,Z4,ZT⟩));all_goals
  have Z2:=(q.trans (bW.of_below (D:=p) (B:=s) y)).trans ZT;clear ZT B;go_wp2;go_ret;exact⟨I,Z4,Z2⟩
theorem K3 {i:ax} (a:aR) (v:a.Ok) {c:F×F} (t:bH c.1 c.2=ae) (u:bG c.1 c.2=i):gH 59 [115,105,109,112,108,101] i a (bf a (gq a.s a.a c.1 c.2)).1 (bf a (gq a.s a.a c.1 c.2)).2:=by
 have Z5:U (ai [115,105,109,112,108,101]=aN #[115,105,109,112,108,101]):=ab I;obtain⟨j,l⟩:∃j,(gq a.s a.a c.1 c.2)=j:=⟨_,I⟩;refine pX ?_;intro m k;clear v l t u;intro ZV ZW p s Z1 r Z7 g n;have w:=g.size;rw[Z5.o];go_enter func59,ntmps59;go_wp2_with fail;refine pS ?_;intro d b q E;clear n g k;have z:=b.desk;refine l0 ?_;intro G K H V X W Q N S O o A P R T L;have Z6:U (∀e,ap d e->bp 162 #[M a.s,M a.a,ba #[M c.1,M c.2]] e j):= λ e v=>by rw[<- m.o];exact FN a.s a.a c.1 c.2 e
 clear b z r E o A N O;go_wp2_with fail;go_region_with (first | (go_at_call 162;refine(Z6.o _ aD).mono ?_;rintro f C ⟨⟨ZY,rfl,D⟩,B⟩;obtain⟨Y,Z8,Z9,rfl,ZZ⟩:=D.ints;have y:ap d C:=bJ B;have Z3:=D.mono (by simp<;>omega:d.heap.size<=_)) | (go_at_call 121;refine(L.o _ _ _ _ y Z3).mono ?_;rintro f ZU ⟨rfl,Z4,ZT⟩));all_goals
  have Z2:=(q.trans (bW.of_below (D:=p) (B:=s) y)).trans ZT;clear ZT B;go_wp2;go_ret;exact⟨I,Z4,Z2⟩
theorem mB (s:ax) {b:ax} (f:aR) (q:b.length<=100000) (e:bP b=aj):gH 60 s b f [110,111] f:=by
 have A:=ab e;clear e;intro z y u t l r x n o;have i:U (∀a,dp a->aY prog 163 #[aE (ai b)] a λ c g=>(∃j k,c=aV (aL #[aa j 0 k,aw ak])) /\ ap a g):= λ a m=>Jb b q A.o a m
 go_enter func60,ntmps60;go_wp2_with fail;refine(i.o _ (r.below n)).mono ?_;rintro c a ⟨⟨v,w,rfl⟩,d⟩;have p:=o.below d;go_wp2;go_ret;exact⟨I,⟨l,p⟩,bW.of_below d⟩
theorem Nl {i:ax} (a:aR) (Zw:i.length<=100000) {c:ac} (t:bP i=Z c):gH 60 [109,111,118,101] i a (bf a (ek a.s a.xs c)).1 (bf a (ek a.s a.xs c)).2:=by
 have Z2:U (ai [109,111,118,101]=aN #[109,111,118,101]):=ab I;obtain⟨j,l⟩:∃j,(ek a.s a.xs c)=j:=⟨_,I⟩;rw[l];have Z3:=ab l;clear l;intro ZU ZV p s ZW r Z7 k w;have Z1:=k.size;refine kk ?_;intro n;clear t;rw[Z2.o];go_enter func60,ntmps60;go_wp2_with fail;refine kX ?_;intro d u x v D m q b g;have E:=k.trans (m.mono Z1);clear m w k n;have z:=b.desk;refine l0 ?_;intro G K H V X W Q N S O o A P R T L;have n:U (∀e,ap d e->bp 164 #[am a.s G K H,aa u x v] e j):= λ e y=>by rw[<- Z3.o];exact He a.s _ _ _ _ _ _ a.xs c e (o.view.below y) (q.below y)
 exact r3
theorem K4 {i:ax} (a:aR) (Zw:i.length<=100000) {c:ac} (t:bP i=Z c):gH 60 [99,111,114,110,101,114] i a (bf a (dX a.s a.xs c)).1 (bf a (dX a.s a.xs c)).2:=by
 have Z2:U (ai [99,111,114,110,101,114]=aN #[99,111,114,110,101,114]):=ab I;obtain⟨j,l⟩:∃j,(dX a.s a.xs c)=j:=⟨_,I⟩;rw[l];have Z3:=ab l;clear l;intro ZU ZV p s ZW r Z7 k w;have Z1:=k.size;refine kk ?_;intro n;clear t;rw[Z2.o];go_enter func60,ntmps60;go_wp2_with fail;refine kX ?_;intro d u x v D m q b g;have E:=k.trans (m.mono Z1);clear m w k n;have z:=b.desk;refine l0 ?_;intro G K H V X W Q N S O o A P R T L;have n:U (∀e,ap d e->bp 165 #[am a.s G K H,aa u x v] e j):= λ e y=>by rw[<- Z3.o];exact Et a.s _ _ _ _ _ _ a.xs c e (o.view.below y) (q.below y)
 exact r3
theorem K5 {i:ax} (a:aR) (Zw:i.length<=100000) {c:ac} (t:bP i=Z c):gH 60 [108,101,118,101,108,115] i a (bf a (eM c)).1 (bf a (eM c)).2:=by
 have Z2:U (ai [108,101,118,101,108,115]=aN #[108,101,118,101,108,115]):=ab I;obtain⟨j,l⟩:∃j,(eM c)=j:=⟨_,I⟩;rw[l];have Z3:=ab l;clear l;intro ZU ZV p s ZW r Z7 k w;have Z1:=k.size;refine kk ?_;intro n;clear t;rw[Z2.o];go_enter func60,ntmps60;go_wp2_with fail;refine kX ?_;intro d u x v D m q b g;have E:=k.trans (m.mono Z1);clear m w k n;have z:=b.desk;refine l0 ?_;intro G K H V X W Q N S O o A P R T L;have n:U (∀e,ap d e->bp 166 #[aa u x v] e j):= λ e y=>by rw[<- Z3.o];exact Fx _ _ _ c e (q.below y)
 exact r3
theorem K6 {i:ax} (o:aR) (Zw:i.length<=100000) {c:ac} (t:bP i=Z c):gH 60 [108,111,119,101,115,116] i o (cM (em o.s o.xs c)) o:=by
 have O:U (ai [108,111,119,101,115,116]=aN #[108,111,119,101,115,116]):=ab I;obtain⟨a,K⟩:∃a,(em o.s o.xs c)=a:=⟨_,I⟩;rw[K];have C:=ab K;clear K;intro Z9 Y p s l r X k w;have R:=k.size;refine kk ?_;intro n;clear t;rw[O.o];go_enter func60,ntmps60;go_wp2_with fail;refine kX ?_;intro d u x v D m q b g;have J:=k.trans (m.mono R);clear m w k n;have A:=b.desk;obtain⟨P,S,Q,W,G,N⟩:=A.m;have V:=A.c0;have E:=G.view;have B:U (aC 168 #[am o.s P S Q,aa u x v] d (bz a.num a.den a.ok)):=by
  rw[U,<- C.o];exact FU o.s _ _ _ _ _ _ o.xs c d E q
 exact vB
theorem Jo {i:ax} (o:aR) (Zw:i.length<=100000) {c:ac} (t:bP i=Z c):gH 60 [104,105,103,104,101,115,116] i o (cM (fB o.s o.xs c)) o:=by
 have O:U (ai [104,105,103,104,101,115,116]=aN #[104,105,103,104,101,115,116]):=ab I;obtain⟨a,K⟩:∃a,(fB o.s o.xs c)=a:=⟨_,I⟩;rw[K];have C:=ab K;clear K;intro Z9 Y p s l r X k w;have R:=k.size;refine kk ?_;intro n;clear t;rw[O.o];go_enter func60,ntmps60;go_wp2_with fail;refine kX ?_;intro d u x v D m q b g;have J:=k.trans (m.mono R);clear m w k n;have A:=b.desk;obtain⟨P,S,Q,W,G,N⟩:=A.m;have V:=A.c0;have E:=G.view;have B:U (aC 169 #[am o.s P S Q,aa u x v] d (bz a.num a.den a.ok)):=by
  rw[U,<- C.o];exact Ft o.s _ _ _ _ _ _ o.xs c d E q
 exact vB
theorem Hy {i:ax} (a:aR) (Zw:i.length<=100000) {c:ac} (t:bP i=Z c) {A:ac} (E:dN a.s a.xs c=Z A):gH 60 [111,117,116,101,114] i a (b2 A) a:=by
 refine p9 ?_;intro o;have N:=ab E;have K:=ab (rq E);clear E;intro Z1 Z2 p s l r Z4 k w;have X:=k.size;refine kk ?_;intro n;clear t;rw[o.o];go_enter func60,ntmps60;go_wp2_with fail;refine kX ?_;intro d u x v D m q b g;have O:=k.trans (m.mono X);clear m w k n;have C:=b.desk;obtain⟨S,Y,T,Z5,R,W⟩:=C.m;have Z6:=C.c0;have P:=R.view;have B:U (aY prog 167 #[am a.s S Y T,aa u x v] d λ f J=>lK (Z A) d.heap.size f J /\ ap d J):=by
  rw[U,<- N.o];exact zR a.s _ _ _ _ _ _ a.xs c d P q
 clear C R W P D q N;go_wp2_with fail;refine B.o.mono ?_;rintro f Z9 ⟨⟨F,rfl,G⟩,j⟩;replace G:av Z9 d.heap.size F A:=G;obtain⟨Z8,Z3,Z7,rfl,Q⟩:=G.ints;have V:=O.trans (j.mono O.size);go_wp2_with fail;refine(nc _ _ _ _ _ Q K.o.1 (by have:=K.o.2;have:=Q.len;omega) (r.below V).pow).mono ?_;rintro f Z0 ⟨rfl,z⟩;exact vG
theorem HW {i:ax} (a:aR) (Zw:i.length<=100000) {c:ac} (t:bP i=Z c) (H:dN a.s a.xs c=aj):gH 60 [111,117,116,101,114] i a [110,111] a:=by
 refine p9 ?_;intro o;have C:=ab H;clear H;intro Z7 Z8 p s l r W k w;have Y:=k.size;refine kk ?_;intro n;clear t;rw[o.o];go_enter func60,ntmps60;go_wp2_with fail;refine kX ?_;intro d u x v D m q b g;clear m w k n;have z:=b.desk;obtain⟨L,Q,N,V,J,O⟩:=z.m;have T:=z.c0;have E:=J.view;have B:U (aY prog 167 #[am a.s L Q N,aa u x v] d λ f A=>lK aj d.heap.size f A /\ ap d A):=by
  rw[U,<- C.o];exact zR a.s _ _ _ _ _ _ a.xs c d E q
 clear z J O E D q C;go_wp2_with fail;refine B.o.mono ?_;rintro f Z6 ⟨⟨F,rfl,P⟩,j⟩;obtain⟨R,Z9,S,rfl,X⟩:=P.ints;refine m8 ?_;intro G K;clear j b g B;exact n9
theorem dT.grown {g j:af} {b:J} {m:gT} {o:Option J} (a:dT g b m) (n:g.grownBy j o) (w:o≠Z b)
  (x:∀l,av g 0 l m.xs->∀k,l.ownBlock=Z k->o≠Z k) (y:∀l,av g 0 l m.ys->∀k,l.ownBlock=Z k->o≠Z k):dT j b m:=by
 have v:j.heap[b]? =g.heap[b]? :=n.block b a.lt (λ c=>w c.symm);have h:∀f,j.cell? ⟨b,f,aj⟩= g.cell? ⟨b,f,aj⟩:= λ f=>eR v
 have i:∀f,j.frozen? ⟨b,f,aj⟩= g.frozen? ⟨b,f,aj⟩:= λ f=>gK v
 refine⟨cm a.lt n.size,(h 0).trans a.c0,(h 2).trans a.c2,(h 4).trans a.c4,(i 0).trans a.f0,(i 1).trans a.f1,(i 2).trans a.f2,(i 3).trans a.f3,(i 4).trans a.f4,?_,?_,(h 5).trans a.c5,(i 5).trans a.f5⟩
 ·obtain⟨p,u,q,s,d,t⟩:=a.m;exact⟨p,u,q,(h 1).trans s,jZ d (λ e c=>n.block e (d.block e c).2 (λ r=>x _ d e c r.symm)),t⟩
 ·obtain⟨p,u,q,s,d,t⟩:=a.n;exact⟨p,u,q,(h 3).trans s,jZ d (λ e c=>n.block e (d.block e c).2 (λ r=>y _ d e c r.symm)),t⟩
theorem AQ {j:af} {l k:J} {i e:ay} {c:ac} {b:aU (ac)} (t:av j l i c) (u:0<c.length) (s:cY j k e b) (w:b=[]->e.ownBlock=aj):∀a,i.ownBlock=Z a->e.ownBlock≠Z a:=by
 intro a q d;have A:0<b.length:=by
  cases b with
  | nil=>rw[w rfl] at d;cases d
  | cons=>simp
 obtain⟨f,o,B,p⟩:=s.own;have r:0<f.length:=E;have h:f[0]? =Z (f[0]):=fV r;have m:=iN o (g:=a) d 0 _ h;obtain⟨x,z,y,n,_⟩:=(p 0 _ h).1.ints;have v:(c.map (ed .i64))[0]? =Z (M c[0]):=by rw[jE,fV u];rfl
 have g:=iN t (g:=a) q 0 _ v;rw[m,n] at g;cases g
theorem Cw {d:F} {a:ac} (b:aI d a=ae):0<a.length:=by
 obtain⟨c,e,_⟩:=bt b;have:=b8 c;omega
theorem K7 {i:ax} (a:aR) (y:a.Ok) (Zw:i.length<=100000) {c:ac} (t:bP i=Z c) (N:(b7 a.s c&&decide (a.gg.length<8))=ak):gH 60 [97,99,116] i a [110,111] a:=by
 have B:U (ai [97,99,116]=aN #[97,99,116]):=ab I;intro Z7 Z8 p s l r W k w;have X:=y.gl;refine kk ?_;intro n;clear t y;rw[B.o];go_enter func60,ntmps60;go_wp2_with fail;refine kX ?_;intro d u x v D m q b g;clear m w k n;have o:=b.desk;obtain⟨R,Z9,S,V,O,L⟩:=o.m;have T:=o.c0;obtain⟨C,P,E,J,Y,H⟩:=b.rows.form;have A: d.cell? (ad p 5)=Z (aa C P E):=by rw[<- J];exact o.c5
 clear o O L H D;cases z:b7 a.s c
 ·go_wp2_with fail;refine(oB a.s _ _ _ _ c _ q).mono ?_;rw[z];rintro f Q ⟨rfl,j⟩;exact xQ
 ·rw[z,eo,decide_eq_false_iff_not] at N;go_wp2_with fail;refine(oB a.s _ _ _ _ c _ q).mono ?_;rw[z];rintro f Q ⟨rfl,j⟩;refine m8 ?_;intro G K;replace A:=ag j A;clear j b g;exact n9
theorem Jp {i:ax} (a:aR) (y:a.Ok) (Zw:i.length<=100000) {c:ac} (t:bP i=Z c) (T:b7 a.s c=ae) (ZG:a.gg.length<8):gH 60 [97,99,116] i a [111,107] ⟨a.s,a.xs,a.t,a.ys,a.a,a.gg++[c]⟩:=by
 have Z5:U (ai [97,99,116]=aN #[97,99,116]):=ab I;intro Zx Z8 b r ZH w ZF ZX q;refine kk ?_;intro n;have Z6:=ab T;have ZP:=Cw y.m;have ZO:=Cw y.n;clear t y T;have A:=q.rows;have W:=q.nil;have H:=A.block;have ZZ:=q.bw;have ZY:=q.lt;have p:=q.desk;obtain⟨x,Zz,z,rfl,ZT,_⟩:=A.form;subst ZT;have l: Z8.cell? (ad b 5)=Z (aa x a.gg.length z):=p.c5;have N:=p.f5;obtain⟨ZK,Zy,ZJ,u,ZR,ZS⟩:=p.m;have s: Z8.cell? (ad b 0)=Z (M a.s):=p.c0;have P:∀g,(aa x a.gg.length z).ownBlock=Z g->g≠b:= λ g f=>by have:=(H g f).1;omega
 rw[Z5.o];go_enter func60,ntmps60;go_wp2_with fail;refine(n.o _ (w.below ZX)).mono ?_;rintro f d ⟨⟨F,rfl,K⟩,k⟩;obtain⟨Z4,ZL,Z3,rfl,V⟩:=K.ints;have ZW:=K.block;have R:=p.below k;have O:=aB k l N;replace l:=ag k l;replace s:=ag k s;replace u:=ag k u;have ZC:=k.size;go_wp2_with fail;refine(oB a.s _ _ _ _ c _ V).mono ?_;rw[Z6.o];rintro f m ⟨rfl,j⟩;have S:=R.below j;have Z0:=aB j l O;replace l:=ag j l;replace s:=ag j s;replace u:=ag j u;have X:=K.below j;have B:=(A.below k).below j;have ZB:=j.size;have Z9:bW b r Z8 m:=(bW.of_below k).trans (bW.of_below j);clear k j V q p R A N O ZR ZS;go_wp2_with (at_builtin;refine zE I _ _ I r (aa x a.gg.length z) a.gg a.gg.length I a6 (B.below (az m _)) _ _ (aa Z4 ZL Z3) c a6 ar ((X.mono ZZ).below (az m _)) (λ g Z2 Z1=>by have:=(ZW g Z2).1;have:=(H g Z1).2;omega) E (by simp;omega) ?_;intro D C o Z7 v ZE;(have J:dT o b (a.ds (aa x a.gg.length z)):=(S.below (az m _)).grown v (λ f=>P b f I) (λ F w=>AQ w ZP (B.below (az m _)) W |> λ G g f=>G g f) (λ F w=>AQ w ZO (B.below (az m _)) W |> λ G g f=>G g f));(have Q:=v.block b (by simp;omega) (λ f=>P b f.symm I));(have ZA: o.cell? (ad b 5)=Z (aa x a.gg.length z):=(eR Q).trans (ag (az m _) l));(have ZI: o.frozen? (ad b 5)=ak:=(gK Q).trans (aB (az m _) l Z0));(have ZQ:bW b r Z8 o:=(Z9.trans (bW.of_below (az m _))).trans (bW.grown v (λ ZM f=>(H ZM f).1)));(have L:aA b (b+1) o (o.setCell (ad b 5) (aq D (a.gg.length+1) C)):=aA.set (by show b<=b /\ b<b+1;omega));(have Y:=Z7.span L E);(have ZD:b<o.heap.size:=J.lt);(have ZN:=v.size);clear B X S v l s u Z9);have ZV:r<=o.heap.size:=by simp at ZN;omega
 have ZU:eY (o.setCell (ad b 5) (aq D (a.gg.length+1) C)) b r ⟨a.s,a.xs,a.t,a.ys,a.a,a.gg++[c]⟩ (aq D (a.gg.length+1) C) :=
  ⟨J.put5 _,Y,λ f=>bC (be List.length f) ar,ZY,ez ZV L.size⟩
 clear J Y;go_wp2;go_ret;exact⟨I,⟨_,ZU⟩,ZQ.trans (bW.of_span L)⟩
theorem Ot {d:ax} (a:aR) (e:a.Ok) (h:d.length<=100000) {b:ac} (g:bP d=Z b):gH 60 [97,99,116] d a (if b7 a.s b&&decide (a.gg.length<8) then gh ⟨a.s,a.xs,a.t,a.ys,a.a,a.gg++[b]⟩ else cs a).1 (if b7 a.s b&&decide (a.gg.length<8) then gh ⟨a.s,a.xs,a.t,a.ys,a.a,a.gg++[b]⟩ else cs a).2:=by
 cases f:(b7 a.s b&&decide (a.gg.length<8))
 ·exact K7 a e h g f
 ·have c:=f;rw[b9,hB] at c;exact Jp a e h g c.1 c.2
theorem Ou (c:ep) (a:aR) (k:a.Ok) (i b:ax) (h:b.length<=100000):h7 i b a (dt c a i b).1 (dt c a i b).2:=by
 by_cases q:i=[108,101,102,116]
 ·subst q;have d:dt c a [108,101,102,116] b=(match c.pm b with | some j=>gh ⟨j.1,j.2,a.t,a.ys,a.a,a.gg⟩ | none=>cs a):=rfl;rw[d];cases f:c.pm b with
  | none=>exact Jm a h (c.hm2 b f)
  | some j=>exact Io a (c.hm1 b j.1 j.2 f).1 (c.hm1 b j.1 j.2 f).2
 by_cases y:i=[114,105,103,104,116]
 ·subst y;have d:dt c a [114,105,103,104,116] b=(match c.pm b with | some j=>gh ⟨a.s,a.xs,j.1,j.2,a.a,a.gg⟩ | none=>cs a):=rfl;rw[d];cases f:c.pm b with
  | none=>exact Ip a h (c.hm2 b f)
  | some j=>exact Hw a (c.hm1 b j.1 j.2 f).1 (c.hm1 b j.1 j.2 f).2
 by_cases z:i=[115,101,116]
 ·subst z;have d:dt c a [115,101,116] b=(match eH b with | some C=>gh ⟨a.s,a.xs,a.t,a.ys,(C:F),a.gg⟩ | none=>cs a):=rfl;rw[d];cases f:eH b with
  | none=>exact K2 a f
  | some C=>exact Jn a f
 by_cases B:i=[116,97,98,108,101]
 ·subst B;exact MZ a k b
 by_cases w:i=[114,101,103,114,101,116]
 ·subst w;have d:dt c a [114,101,103,114,101,116] b=(match cg b with | some E=>(cM (fw a.s a.xs a.gg E),a) | none=>cs a):=rfl;rw[d];cases f:cg b with
  | none=>exact Hx a h f
  | some E=>exact GF a h f
 by_cases o:i=[100,105,115,99,111,117,110,116]
 ·subst o;refine yF ?_;intro d;cases f:c.pf b with
  | none=>exact lH (bj I) (rF _ a h (c.hf2 b f))
  | some e=>exact lH (bj I) (Iq a k (c.hf1 b e.1 e.2 f).1 (c.hf1 b e.1 e.2 f).2)
 by_cases x:i=[114,101,108,105,97,98,108,101]
 ·subst x;refine zd ?_;intro d;cases f:c.pf b with
  | none=>exact lH (aP (bj I)) (rF _ a h (c.hf2 b f))
  | some e=>exact lH (aP (bj I)) (Ir a k (c.hf1 b e.1 e.2 f).1 (c.hf1 b e.1 e.2 f).2)
 by_cases t:i=[109,105,120]
 ·subst t;have d:dt c a [109,105,120] b=(match c.pf b with | some e=>bf a (cB a.s a.xs a.t a.ys e.1 e.2) | none=>cs a):=rfl;rw[d];cases f:c.pf b with
  | none=>exact lH (aP (aP (bj I))) (rF _ a h (c.hf2 b f))
  | some e=>exact lH (aP (aP (bj I))) (Oq a k (c.hf1 b e.1 e.2 f).1 (c.hf1 b e.1 e.2 f).2)
 by_cases A:i=[115,105,109,112,108,101]
 ·subst A;have d:dt c a [115,105,109,112,108,101] b=(match c.pf b with | some e=>bf a (gq a.s a.a e.1 e.2) | none=>cs a):=rfl;rw[d];cases f:c.pf b with
  | none=>exact lH (aP (aP (aP (I)))) (rF _ a h (c.hf2 b f))
  | some e=>exact lH (aP (aP (aP (I)))) (K3 a k (c.hf1 b e.1 e.2 f).1 (c.hf1 b e.1 e.2 f).2)
 by_cases u:i=[109,111,118,101]
 ·subst u;have d:dt c a [109,111,118,101] b=(match bP b with | some g=>(bf a (ek a.s a.xs g)) | none=>cs a):=rfl;rw[d];cases f:bP b with
  | none=>exact hR (bj I) (mB _ a h f)
  | some g=>exact hR (bj I) (Nl a h f)
 by_cases n:i=[99,111,114,110,101,114]
 ·subst n;have d:dt c a [99,111,114,110,101,114] b=(match bP b with | some g=>(bf a (dX a.s a.xs g)) | none=>cs a):=rfl;rw[d];cases f:bP b with
  | none=>exact hR (aP (bj I)) (mB _ a h f)
  | some g=>exact hR (aP (bj I)) (K4 a h f)
 by_cases r:i=[108,101,118,101,108,115]
 ·subst r;have d:dt c a [108,101,118,101,108,115] b=(match bP b with | some g=>(bf a (eM g)) | none=>cs a):=rfl;rw[d];cases f:bP b with
  | none=>exact hR (aP (aP (bj I))) (mB _ a h f)
  | some g=>exact hR (aP (aP (bj I))) (K5 a h f)
 by_cases v:i=[111,117,116,101,114]
 ·subst v;refine zc ?_;intro d;rw[d];cases f:bP b with
  | none=>exact hR (aP (aP (aP (bj I)))) (mB _ a h f)
  | some g=>exact(by
   show h7 _ _ _ (match dN a.s a.xs g with | some b=>(b2 b,a) | none=>cs a).1 (match dN a.s a.xs g with | some b=>(b2 b,a) | none=>cs a).2;cases D:dN a.s a.xs g with
   | none=>exact hR (aP (aP (aP (bj I)))) (HW a h f D)
   | some G=>exact hR (aP (aP (aP (bj I)))) (Hy a h f D))
 by_cases s:i=[108,111,119,101,115,116]
 ·subst s;have d:dt c a [108,111,119,101,115,116] b=(match bP b with | some g=>((cM (em a.s a.xs g),a)) | none=>cs a):=rfl;rw[d];cases f:bP b with
  | none=>exact hR (aP (aP (aP (aP (bj I))))) (mB _ a h f)
  | some g=>exact hR (aP (aP (aP (aP (bj I))))) (K6 a h f)
 by_cases p:i=[104,105,103,104,101,115,116]
 ·subst p;have d:dt c a [104,105,103,104,101,115,116] b=(match bP b with | some g=>((cM (fB a.s a.xs g),a)) | none=>cs a):=rfl;rw[d];cases f:bP b with
  | none=>exact hR (aP (aP (aP (aP (aP (bj I)))))) (mB _ a h f)
  | some g=>exact hR (aP (aP (aP (aP (aP (bj I)))))) (Jo a h f)
 by_cases m:i=[97,99,116]
 ·subst m;refine yK ?_;intro d;rw[d];cases f:bP b with
  | none=>exact hR (aP (aP (aP (aP (aP (aP (I))))))) (mB _ a h f)
  | some g=>exact hR (aP (aP (aP (aP (aP (aP (I))))))) (Ot a k h f)
 have d:dt c a i b=(iK,a):=by
  exact wm
 rw[d];exact Nk a q y z B w o x t A u n r v s p m
theorem Ov (c:ep) (a:aR) (g:a.Ok) (b:ax) (h:b.length<=100000):rM b a (gx c a b).1 (gx c a b).2:=by
 obtain⟨e,i,j,d,k,l⟩:=qU 32 b;cases j
 ·have f:gx c a b=iI c a e:=by unfold gx;rw[d]
  rw[f];exact M0 (Oo c a g e E) b d h
 ·have f:gx c a b=dt c a e i:=by unfold gx;rw[d]
  rw[f];exact Ou c a g e i E b d h
end Go.Proofs.YtkjnhlpccgjfhaaGreatDoor
