/- A part of the proof: lemmas (my texts, shortened by a program of mine). -/
import Derived.BigQuiet
import Derived.Deep.RegionLaw
import Derived.Deep.RegionHeld3
import Derived.Deep.DeepCutAuto
import Derived.Test.YtkjnhlpccgjfhaaGreatDoorRows
import Derived.WalkKit
import Derived.WalkSpells
import Derived.WalkLawsBesides
set_option linter.all false
set_option maxRecDepth 100000
set_option maxHeartbeats 4000000
namespace Go.Proofs.YtkjnhlpccgjfhaaGreatDoor
open Go.RowKit
open Go.Proofs.Tryz
variable {p q:Prop}
structure O0 (q : Prop) : Prop where
  g : q
def U (p : Prop) : Prop := p
theorem U.o {p : Prop} (h : U p) : p := h
abbrev ac := List Int
abbrev ax := List UInt8
abbrev aG := Option Addr
abbrev M (x : Int) : Value := .int .i64 x
abbrev ad (b o : Nat) : Addr := ⟨b, o, none⟩
abbrev aq (g n c : Nat) : Value := .slice (some ⟨g, 0, none⟩) n c
abbrev br (g : Nat) : Value := .pointer (some ⟨g, 0, none⟩)
abbrev am (s : Int) (a : Option Addr) (n c : Nat) : Value := .agg #[.int .i64 s, .slice a n c]
abbrev bz (a b : Int) (c : Bool) : Value := .tuple #[.agg #[.int .i64 a, .int .i64 b], .bool c]
abbrev ap (w w' : World) : Prop := Below w.heap.size w w'
abbrev vi (w : World) (b o : Nat) (v : Value) : Prop := w.cell? ⟨b, o, none⟩ = some v
abbrev OZ (w : World) (b o : Nat) : Prop := w.frozen? ⟨b, o, none⟩ = false
theorem aZ {n : Nat} : n ≤ n := Nat.le_refl n
theorem bA {n : Nat} {w : World} : Below n w w := Below.refl _ _
theorem iU {P : Program} {f : FuncId} {vs : Array Value} {w : World} {Q : Ending → World → Prop} (h : ∀ w1, w = w1 → Calls P f vs w1 Q) : Calls P f vs w Q := h w rfl
theorem hd {P : Program} {c : Code} {a : Act} {w : World} {Q : Exit → Act → World → Prop} (h : ∀ w1, w = w1 → c.wp P Q a w1) : c.wp P Q a w := h w rfl
theorem b6 {w : World} {b o : Nat} {v : Value} (h : w.cell? ⟨b, o, none⟩ = some v) : b < w.heap.size := by have := World.block_lt_of_cell? w _ h; simpa using this
theorem E {p : Prop} (h : p := by omega) : p := h
theorem ah {p : Prop} (h : p := by kernel_rfl) : p := h
theorem ar {p : Prop} (h : p := by simp) : p := h
theorem bO {p : Prop} (h : p := by simp <;> omega) : p := h
theorem aX {p : Prop} (h : p := by decide) : p := h
theorem cS {p : Prop} (h : p := by decide +kernel) : p := h
theorem a6 {p : Prop} (h : p := by rfl) : p := h
abbrev aC (f : FuncId) (vs : Array Value) (w : World) (v : Value) : Prop := Calls Tryz.prog f vs w fun e w' => e = .returned v ∧ Below w.heap.size w w'
theorem wD (h:p:=by
 obtain⟨Z9,Zt,Zs,Zv,Zu,ZQ,ZL⟩:=DP K y P Q N O L H;obtain⟨D,G,ZU,ZT,ZS,ZR,Z8,Z7,Z5,Z4,Z3,Z2,R,S,T,V,W,X⟩:=cq Z9 bA;clear K y P Q N O L;go_wp2_with fail;refine iU ?_;intro Zr ZM;obtain⟨ZO,ZP,Zl,Zx⟩:=DQ Z9 ZQ C ZL ZM;clear ZM C Z9 ZQ ZL D G ZU ZT ZS ZR Z8 Z7 Z5 Z4 Z3 Z2 R S T V W X Zt Zs Zv Zu H;refine(te (ha z b.heap.size (b.heap.size+1+1)) a e r ZV ZZ Zr _ (w.enter ZP aZ) (gE.new Zx (nA x E E))).mono ?_;rintro ZY Zk ⟨⟨Zm,rfl,ZN⟩,Y⟩;have Zw:=ZN;obtain⟨ZA,ZC,ZG,Zz,ZB,ZF,ZD,ZE,rfl,_,_,_⟩:=ZN;obtain⟨D,G,ZU,ZT,ZS,ZR,Z8,Z7,Z5,Z4,Z3,Z2,R,S,T,V,W,X⟩:=cq ZO Y;have Zy:=au ZP Y;clear Y ZO;go_wp2;refine aK (v:=aL #[ba #[M (fi a e).s,aa ZA ZC ZG,M (fi a e).t,aa Zz ZB ZF,M (fi a e).a,aa ZD (fi a e).gg.length ZE],aE (ai (gW e++[10]))]) (by simp[aJ,results92,go_sem,R,S,T,V,W,X,Z8,Z7,Z5,Z4,Z3,Z2]) I ?_;exact⟨⟨_,I,Zw.leave (ie E E _ _ _ _ _ _)⟩,eP Zy E _ _ _ _ _ _⟩):p:=h
theorem vF (h:p:=by
 clear YO YN;have Xt:=ag Zi ZL;go_wp2;clear Xt;go_loopw [12,14,15,55,85] (λ L _ _ m _ wr=>ap f wr /\ o<wr.heap.size /\ ∃(b:J) (t i n:ac) (C:J->J),b<=a.N /\ m=M b /\ av wr f.heap.size (aq s a.N a.N) t /\ av wr f.heap.size (aq l a.N a.N) i /\ e4 wr o L n /\ n.length+io i<=ZO /\ U (WO=r \/ 0<=O i WO) /\ U (dO a.N r q p t i n C (kh WO b) fG)) (λ _ _ _ m _ _=>a.N-(intOf m).toNat)
 case atStart=>exact⟨Zi,XI,0,XS,Zz,rest,XE,E,I,Yt,Zb,Zh,Nat.le_of_eq YP.o.symm,YK,YR⟩
 case round =>
  obtain⟨Q,YX,b,t,i,n,C,XM,rfl,A,B,ZQ,Z4,ZY,w⟩:=hrel;clear YR YK Yt Zb Zh;have WR:=Q.size;by_cases j:b<a.N
  ·have XL:(0:F)<=(b:F):=E;have Yw:(b:F)<(a.N:F):=E;obtain⟨Zm,YI,YH⟩:=A.cellAt j;have Xr:=ag Q ZL;obtain⟨ZT,Y1⟩:∃ZT,O t b=ZT:=⟨_,I⟩;have Y6:=ab Y1;rw[Y1] at Zm;clear Y1 YH;by_cases Xo:0<=ZT
   ·have Y7:=ab (w.o.skip (λ _=>by rw[Y6.o];exact Xo));clear w;go_wp2;go_roundw
    case rel=>exact⟨Q,YX,b+1,t,i,n,C,E,by go_num,A,B,ZQ,Z4,ZY,Y7⟩
    case measure=>simp[intOf];omega
   ·cases ZC:bY b WO with
    | false =>
     have Y7:=ab (w.o.skip (λ g=>by rw[ZC] at g;cases g))
     have ZR:=ab ZC
     clear w ZC
     go_wp2_with fail
     refine(oC a ZV Z3 WO b _ q W p (Z7.o.below z.o Q ZI) z.o ZJ j).mono ?_;rw[ZR.o];rintro c k ⟨rfl,rfl⟩
     go_wp2
     go_roundw
     case rel=>exact⟨Q,YX,b+1,t,i,n,C,E,by go_num,A,B,ZQ,Z4,ZY,Y7⟩
     case measure=>simp[intOf];omega
    | true =>
     have ZR:=ab ZC
     clear ZC
     have Zq:U (O t b<0):=by show _<_;rw[Y6.o];omega
     obtain⟨N,ZU⟩:=A.store j (WO:F)
     have X:=B.setOther (a:=(ad s b)) (by intro c;simp[lL] at c;omega) (M (WO:F))
     have Zp:=ZQ.grown ZU E
     have R:=cV Q E ZU (λ ZM c=>by injection c with c;omega)
     obtain⟨X1,Zn⟩:∃Z6,wr.setCell (ad s b) (M (WO:F))=Z6:=⟨_,I⟩
     have Xi:X1.heap.size=wr.heap.size:=by rw[<- Zn];simp[jc]
     go_wp2_with fail
     refine(oC a ZV Z3 WO b _ q W p (Z7.o.below z.o Q ZI) z.o ZJ j).mono ?_;rw[ZR.o];rintro c k ⟨rfl,rfl⟩
     go_wp2_with fail
     rw[Zn] at N X Zp R
     (try rw[Zn])
     have Xs:=ag R ZL
     clear Zn ZU A B ZQ Q Zm YI Xr
     refine(XV.o b _ R j).mono ?_;rintro c k ⟨rfl,rfl⟩
     by_cases Y4:0<p b
     ·have Yj:=ab (w.o.led ZJ ZY.o j Zq.o ZR.o);have Xx:=ab N;have Xw:=ab X;have Y3:=fW Y4;clear w N X Zp;rw[Y3];go_wp2;refine aK (v:=aL #[aq s a.N a.N,aq l a.N a.N,M b]) (by simp[aJ,results375,go_sem]) I ⟨Or.inl ⟨s,a.N,l,a.N,b,_,_,_,I,j,XR.1,XQ.1,E,E,qr Xx.o,qr Xw.o,Yj.o.1,by rw[Yj.o.2.1];omega,Y4⟩,R⟩
     ·have Y3:=iP Y4;have Zs:=ab (w.o.add ZJ ZY.o j Zq.o ZR.o E);have Yk:U (0<=O (t.set b (WO:F)) b):=by show 0<=_;rw[(w.o.led ZJ ZY.o j Zq.o ZR.o).2.1];omega
      rw[Y3];obtain⟨ZE,X8⟩:∃Xh,Xh=t.set b (WO:F):=⟨_,I⟩;rw[<- X8] at N Zs Yk;obtain⟨YW,X6⟩:∃Xq:J->J,Xq= λ e=>if e=b then C (O i WO).toNat +1 else C e:=⟨_,I⟩
      rw[<- X6] at Zs;clear w X8 X6 Zq Y6;obtain⟨WP,rfl⟩:∃ZZ:af,ZZ=X1:=⟨_,I⟩;go_wp2;go_loopw [12,15,85] (λ L _ e wr=>ap f wr /\ o<wr.heap.size /\ ∃(d:J) (i n:ac),d<=a.N /\ e=M d /\ av wr f.heap.size (aq s a.N a.N) ZE /\ av wr f.heap.size (aq l a.N a.N) i /\ e4 wr o L n /\ n.length+io i<=ZO /\ U (WO=r \/ 0<=O i WO) /\ U (dO a.N r q p ZE i n YW (kh WO (b+1)) (lQ b d))) (λ _ _ e _=>a.N-(intOf e).toNat)
      case atStart=>exact⟨R,E,0,i,n,E,I,N,X,Zp,Z4,ZY,Zs⟩
      case round =>
       clear Zs N X Zp R Z4 ZY Xi Xs;obtain⟨y,YY,d,D,Z9,WV,rfl,V,K,S,Y5,Zr,v⟩:=hrel;have WQ:=y.size;by_cases G:d<a.N
       ·have WU:(0:F)<=(d:F):=E;have Xn:(d:F)<(a.N:F):=E;by_cases Xm:d=r
        ·subst Xm;have P:=ab (v.o.bskip (λ _=>Or.inl I));clear v;exact r5
        ·obtain⟨YG,XT,WY⟩:=K.cellAt G;obtain⟨YU,Y0⟩:∃YU,O D d=YU:=⟨_,I⟩;have Yf:=ab Y0;rw[Y0] at YG;clear Y0;by_cases Xj:YU<0
         ·cases Zo:bY b d with
          | false =>
           have ZF:=ab Zo
           have P:=ab (v.o.bskip (λ g=>by have:=YQ.o.sup d b G j E;rw[ZF.o] at this;cases this))
           clear v Zo
           go_wp2_with fail
           refine(oC a ZV Z3 d b _ q W p (Z7.o.below z.o y ZI) z.o G j).mono ?_;rw[ZF.o];rintro c k ⟨rfl,rfl⟩
           go_wp2
           go_roundw
           case rel=>exact⟨y,YY,d+1,D,Z9,E,by go_num,V,K,S,Y5,Zr,P⟩
           case measure=>simp[intOf];omega
          | true =>
           have ZF:=ab Zo
           have WW:=ag y ZL
           have WX:=ag y (Z7.o.g d G)
           have Xu:=ag y (Z7.o.r d b G j).1
           obtain⟨YT,YZ⟩:∃YT,q d b=YT:=⟨_,I⟩
           have Ye:=ab YZ
           rw[YZ] at Xu
           clear Zo YZ
           generalize a.R d=WZ at *
           by_cases X5:0<YT
           ·have Zu:U (0<q d b):=by show 0<_;rw[Ye.o];exact X5
            have X9:U (O D d<0):=by show _<0;rw[Yf.o];exact Xj
            have P:=ab (v.o.badd G j Yk.o X9.o Zu.o);have WT:=AX D d (b:F) (by rw[v.o.lt];exact G) X9.o E;have Xv:U (WO=r \/ 0<=O (D.set d (b:F)) WO):=by
             refine Zr.o.imp id λ g=>?_
             rw[cO];split
             ·omega
             ·exact g
            obtain⟨X3,YV⟩:=K.store G (b:F);have X4:=V.setOther (a:=⟨l,d,aj⟩) (by intro c;simp[lL] at c;omega) (M (b:F));have Ya:=S.grown YV E;have Yb:=cV y E YV (λ ZM c=>by injection c with c;omega);obtain⟨x,ZP⟩:∃Z6,wr.setCell ⟨l,d,aj⟩ (M (b:F))=Z6:=⟨_,I⟩;have WS:x.heap.size=wr.heap.size:=by rw[<- ZP];simp[jc]
            have Yh:U (av x f.heap.size (aq s a.N a.N) ZE):=by rw[<- ZP];exact X4
            have Yg:U (av x f.heap.size (aq l a.N a.N) (D.set d (b:F))):=by rw[<- ZP];exact X3
            have Yi:U (e4 x o u12 Z9):=by rw[<- ZP];exact Ya
            have Xz:U (ap f x):=by rw[<- ZP];exact Yb
            have Xk:Z9.length<1000000:=E;clear v X4 X3 YV Ya Yb V K S;go_wp2_with fail;refine(oC a ZV Z3 d b _ q W p (Z7.o.below z.o y ZI) z.o G j).mono ?_;rw[ZF.o];rintro c k ⟨rfl,rfl⟩;go_wp2_with (at_builtin;(try rw[ZP]);refine DW I _ _ I o _ Z9 a6 (Yi.o.below (az x _) aZ) _ _ (d:F) a6 (by first | (simp;done) | (go_simp;done)) Xk (by first | omega | (simp;omega)) ?_;intro W0 k XA Y2);have X7:=Yi.o.own;have Yc:Below x.heap.size x (x.alloc (al #[M (d:F)] 3)):=az x _;have Zj:ap f k:=cV (au Xz.o Yc) (by simp;omega) Y2 (λ ZM c=>by have:=(X7 ZM c).1;omega);have X2:∀u,u<x.heap.size->u<o->k.heap[u]? =x.heap[u]? := λ u Zy Yd=>by
             rw[Y2.block u (by simp;omega) (by intro c;have:=(X7 u c.symm).1;omega)];exact Yc.block u Zy
            have Zy:=Yh.o.same λ u c=>X2 u (Yh.o.block u c).2 (by have:=dD c;omega)
            have Yd:=Yg.o.same λ u c=>X2 u (Yg.o.block u c).2 (by have:=dD c;omega)
            have Xp:o<k.heap.size:=by have:=Y2.size;simp at this;omega
            go_roundw
            case rel=>exact⟨Zj,Xp,d+1,D.set d (b:F),Z9++[(d:F)],E,by go_num,Zy,Yd,XA,by rw[dm];simp;omega,Xv,P⟩
            case measure=>simp[intOf];omega
           ·have P:=ab (v.o.bskip (λ g=>by rw[Ye.o] at g;exact bC g X5));clear v;go_wp2_with fail;refine(oC a ZV Z3 d b _ q W p (Z7.o.below z.o y ZI) z.o G j).mono ?_;rw[ZF.o];rintro c k ⟨rfl,rfl⟩;exact r5
         ·have P:=ab (v.o.bskip (λ _=>Or.inr (by rw[Yf.o];omega)));clear v;exact r5
       ·have ZD:d=a.N:=E;have P:U (dO a.N r q p ZE D Z9 YW (kh WO (b+1)) fG):=by have g:=v.o;rw[ZD] at g;exact g.bpass
        have Xn:¬(d:F)<(a.N:F):=E;clear v ZD;go_wp2;go_roundw
        case rel=>exact⟨y,YY,b+1,ZE,D,Z9,YW,E,by go_num,V,K,S,Y5,Zr,P⟩
        case measure=>simp[intOf];omega
  ·have ZD:b=a.N:=E;have Xy:U (dO a.N r q p t i n C fG fG):=by have g:=w.o;rw[ZD] at g;exact g.pass
   have Yw:¬(b:F)<(a.N:F):=E;have Xl:pr u12+ph wr l a.N<rest.length+1+io Zz:=by rw[ZQ.lenV,Bq w.o.lt (qr B)];have:=YP.o;omega
   clear w ZD;go_wp2;go_roundw
   case rel=>exact⟨Q,YX,t,i,n,C,A,B,ZQ,E,Xy⟩
   case measure=>rw[XW.o];exact Xl):p:=h
theorem rP (h:p:=by
 have ZQ:U (∀e,aC 64 #[M ZJ] e (aE (ai (Lib.itoa ZJ)))):= λ e=>qt ZJ E E e
 have ZP:U (∀e,aC 40 #[aw (decide ((0:F)<=ZJ)),aE (ai (Lib.itoa ZJ))] e (aE (ai (hw ZJ++[10])))):= λ e=>(le (decide ((0:F)<=ZJ)) (Lib.itoa ZJ) e (by have:=ld (x:=ZJ) E E;omega)).mono λ ZX ZL H=>by
  refine⟨?_,by rw[<- H.2];exact Below.refl _ _⟩;rw[H.1];unfold hw;by_cases s:ZJ= -1
  ·rw[a7 s,s];rfl
  ·rw[aF s,a7 (fW E)]
 clear G J;go_enter func38,ntmps38;go_wp2_with fail;refine sX ?_;intro A D;refine jh ?_;intro B q K;obtain⟨ZK,ZN⟩:=u;have ZU:dj A m a.gg.length a.gg:=((ZN b (cA.refl _ _)).rows H.gl).below B;clear D;obtain⟨N,O,P,Q,R,S,Z7,Z5,Z2,Z1,Z0,ZZ,W,X,Y,y,Z9,Z8⟩:=cq q bA;go_wp2_with fail;refine(ZY.o _ K ZU).mono ?_;rintro ZX C ⟨rfl,ZW⟩;have Z4:=q.below ZW;have ZR:=au B ZW;clear ZW q K ZU N O P Q R S Z7 Z5 Z2 Z1 Z0 ZZ W X Y y Z9 Z8;obtain⟨N,O,P,Q,R,S,Z7,Z5,Z2,Z1,Z0,ZZ,W,X,Y,y,Z9,Z8⟩:=cq Z4 bA;go_wp2_with fail;clear N O P Q R S Z7 Z5 Z2 Z1 Z0 ZZ W X Y y Z9 Z8;refine sD ?_;refine s6 ?_;intro L p;refine eq 3 (v:=?_) I p (λ e Z3=>?_) ?_;rotate_left
 ·obtain⟨N,O,P,Q,R,S⟩:=eJ Z4 Z3;go_simp;first | done | rfl
 simp only[aT];refine bR 4 I (λ k j=>?_);go_simp;refine(ZQ.o _).mono ?_;rintro ZX ZM ⟨rfl,r⟩;have ZV:=au L r;go_simp;have v:aA (b.heap.size+1) (b.heap.size+1+1) C ZM:=aA.of_below ZV;refine eu ?_;intro p;clear j k r v;refine bR 5 I (λ k j=>?_);go_simp;refine(ZP.o _).mono ?_;rintro ZX ZO ⟨rfl,r⟩;have T:=au ZV r;refine sW ?_;intro v;refine eu ?_;intro p;clear j k r v;obtain⟨N,O,P,Q,R,S,Z7,Z5,Z2,Z1,Z0,ZZ,W,X,Y,y,Z9,Z8⟩:=cq Z4 T;refine bR 6 I (λ k j=>?_);refine c7 ?_;clear j k;refine bR 7 I (λ k j=>?_);refine c7 ?_;refine eh ?_;clear j k;replace T:=au ZR T;go_wp2;refine aK (v:=aL #[ba #[M a.s,aa c d f,M a.t,aa i g l,M a.a,aa m a.gg.length n],aE (ai (hw ZJ++[10]))]) (by simp[aJ,results38,go_sem,W,X,Y,y,Z9,Z8,Z7,Z5,Z2,Z1,Z0,ZZ]) I ?_;have V:=eP (B:=b.heap.size+1) T E (M a.s) (aa c d f) (M a.t) (aa i g l) (M a.a) (aa m a.gg.length n);exact kj):p:=h
theorem r9 (h:p:=by
 refine oh ?_;intro Z5;clear H G T;go_enter func11,ntmps11;go_wp2_with fail;refine hd ?_;intro A D;refine jh ?_;intro B q K;clear D;refine ia ?_;intro C p;refine ov ?_;refine bR 5 I (λ k j=>?_);go_simp;refine od ?_;rintro Z Z3 ⟨rfl,r⟩;exact w0):p:=h
theorem pN (h:p:=by
 go_wp2_with fail;refine(qW a n _ Q E).mono ?_;rintro j Z2 ⟨⟨X1,rfl,N⟩,ZY⟩;have Yz:=ag ZY (a:=(ad X0.heap.size 0)) (v:=M 0) (by simp[u,L,fr]);have Yy:=ag ZY (a:=(ad X0.heap.size 1)) (v:=aa aj 0 0) (by simp[v,L,fr]);have YB:=aA.belowKeepF ZY (b:=X0.heap.size) (o:=0) ⟨by simp;omega,by simp[x,u]⟩ (by simp;omega);have YA:=aA.belowKeepF ZY (b:=X0.heap.size) (o:=1) ⟨by simp;omega,by simp[y,v]⟩ (by simp;omega);have ZF:ap S Z2:=Below.trans aD (ZY.mono ar);replace f:=f.on ZF;replace c:=c.trans (aA.of_below ZF);have Zm:=ZF.size;have Yv:=YB.2;have Yu:=YA.2;clear ZY ZF x y u v;obtain⟨Yx,Yt,Yw,rfl,X2⟩:=N.ints;go_wp2;refine aK (v:=am a Yx Yt Yw) (by simp[aJ,results61,go_sem,Yz,Yy,Yv,Yu]) I ⟨_,I,⟨_,_,I,?_,mz a n,N3 Q E⟩,?_,?_⟩
 ·refine av.mono (base:=S.heap.size) ?_ E;replace N:=N.mono (base':=S.heap.size) ar
  (repeat (first | exact N | (refine av.setBelow ?_ ?_ _;rotate_left;focus (first | (omega) | (simp;done) | (simp;omega))) | (refine av.setOther ?_ ?_ _;rotate_left;focus (intro Zc;have Zb:=dD Zc;first | (omega) | (simp at Zb;omega))) | refine av.below ?_ (az _ _)))
 ·exact(f.below (B:=g+1) aD E).mono E
 ·exact c.on aD):p:=h
theorem su (h:p:=by
 generalize ai YY=Zt at G ⊢;clear v ZZ YX YW;go_enter func44,ntmps44;go_wp2_with fail;refine jR ?_;intro Z8 D B;rintro H Zw ⟨⟨j,k,r,rfl,Zz⟩,K⟩;refine kl ?_;intro q T;have Zr:=q.z;have ZC:an Zw c d a.xs:=(t.row.below T).view;have ZB:=Zz.view;clear B D K G;obtain⟨Y,Z9,Z7,Z5,Z4,Z3,Q,R,S,V,W,X,y,J,L,N,O,P⟩:=cq q bA;go_wp2_with fail;clear Y Z9 Z7 Z5 Z4 Z3 Q R S V W X y J L N O P;refine(A.o _ _ _ _ ZC ZB).mono ?_;rintro H Zv ⟨⟨Z6,rfl,ZX⟩,Z2⟩;obtain⟨ZG,Zx,ZF,rfl,Zs⟩:=ZX.ints;obtain⟨Y,Z9,Z7,Z5,Z4,Z3,Q,R,S,V,W,X,y,J,L,N,O,P⟩:=cq q Z2;go_wp2_with fail;refine iU ?_;intro ZR C;have Z1:ap Zv ZR:=by rw[<- C];exact az _ _
 have ZU:=(q.below Z2).below Z1;have ZV:=au (au T Z2) Z1;have ZA:=ZX.below Z1;clear C ZX Z2 Z1 q T Y Z9 Z7 Z5 Z4 Z3 Q R S V W X y J L N O P;refine(te (ha z b.heap.size (b.heap.size+1+1)) a p ZG Zx ZF ZR _ (w.enter ZV aZ) (gE.new ZA (nA x E E))).mono ?_;rintro H Zq ⟨⟨Zu,rfl,ZT⟩,ZY⟩;have Zy:=ZT;obtain⟨ZI,ZK,ZO,ZH,ZJ,ZN,ZL,ZM,rfl,_,_,_⟩:=ZT;obtain⟨Y,Z9,Z7,Z5,Z4,Z3,Q,R,S,V,W,X,y,J,L,N,O,P⟩:=cq ZU ZY;have ZD:=au ZV ZY;clear ZY ZU;go_wp2;refine aK (v:=aL #[ba #[M (fi a p).s,aa ZI ZK ZO,M (fi a p).t,aa ZH ZJ ZN,M (fi a p).a,aa ZL (fi a p).gg.length ZM],aE (ai (gW p++[10]))]) (by simp[aJ,results44,go_sem,y,J,L,N,O,P,Q,R,S,V,W,X]) I ?_;exact⟨⟨_,I,Zy.leave (ie E E _ _ _ _ _ _)⟩,eP ZD E _ _ _ _ _ _⟩):p:=h
theorem vw (h:p:=by
 refine zn ?_;intro J Y T W Z Z7 Z1 G;clear X;go_enter func38,ntmps38;go_wp2_with fail;refine hd ?_;intro A D;refine jh ?_;intro B q K;obtain⟨ZE,ZM⟩:=u;have ZP:dj A m a.gg.length a.gg:=((ZM b (cA.refl _ _)).rows F.gl).below B;clear D;refine ia ?_;intro C p;refine ov ?_;refine bR 5 I (λ k j=>?_);go_simp;refine(Y.o _ (K.below C) (ZP.below C)).mono ?_;rintro ZW Z3 ⟨⟨ZD,rfl,ZN⟩,r⟩;have Z8:=au C r;obtain⟨ZF,Z9,Z5,rfl,ZO⟩:=ZN.ints;refine sP ?_;intro v;refine eu ?_;intro p;clear j k r v;refine bR 6 I (λ k j=>?_);go_simp;refine(Z.o _ _ _ _ ZO).mono ?_;rintro ZW Z4 ⟨rfl,r⟩;have H:=au Z8 r;refine pR ?_;intro v;refine eu ?_;intro p;clear j k r v;refine sJ ?_;obtain⟨L,N,O,P,Q,R,ZL,ZK,ZJ,ZI,ZH,ZG,ZV,ZU,ZT,ZS,ZR,ZQ⟩:=cq q H;refine bR 8 I (λ k j=>?_);refine c7 ?_;clear j k;refine bR 9 I (λ k j=>?_);refine c7 ?_;refine eh ?_;clear j k;replace H:=au B H;go_wp2;refine aK (v:=aL #[ba #[M a.s,aa c d f,M a.t,aa i g l,M a.a,aa m a.gg.length n],aE (ai J++aN #[10])]) (by simp[aJ,results38,go_sem,ZV,ZU,ZT,ZS,ZR,ZQ,ZL,ZK,ZJ,ZI,ZH,ZG]) I ?_;refine zr ?_;intro V;exact rX):p:=h
theorem so (h:p:=by
 obtain⟨b,B,V,rfl,rfl,v,y,ZJ⟩:=hrel;refine iy ?_;intro f w z;by_cases ZQ:b<c
 ·have ZM:(0:F)<=(b:F):=E;have ZL:(b:F)<(c:F):=E;go_wp2_with fail;refine oj ?_;intro x o q u r w z D;clear v y o;have Z7:=ab (gn k b);have ZR:=ab (P.o b);have Z2:=ab (L.o b x ZQ (n.below r));rw[ZR.o] at Z2;go_wp2_with fail;refine Z2.o.mono ?_;rintro G Z1 ⟨rfl,K⟩;exact yb
 ·exact pL):p:=h
theorem xj (h:p:=by
 refine oh ?_;intro Z5;clear H G T;go_enter func11,ntmps11;go_wp2_with fail;refine hd ?_;intro A D;refine jh ?_;intro B q K;have ZQ:an A i g a.ys:=(s.row.below B).view;clear D;refine ia ?_;intro C p;refine ov ?_;refine bR 5 I (λ k j=>?_);go_simp;refine(Y.o _ (K.below C) (ZQ.below C)).mono ?_;rintro Z Z3 ⟨rfl,r⟩;exact w0):p:=h
theorem xB (h:p:=by
 refine oh ?_;intro Z5;generalize ai YY=ZF at G ⊢;clear Z4 ZY YX YW;go_enter func44,ntmps44;go_wp2_with fail;refine jR ?_;intro Z8 D B;refine ox ?_;intro A J K T Z7 W q X Y Z9;clear B D W G;go_wp2_with fail;refine ia ?_;intro C p;refine kZ ?_;refine eq 3 (v:=?_) I p (λ e S=>?_) ?_;rotate_left
 ·obtain⟨L,N,O,P,Q,R⟩:=eJ q S;go_simp;first | done | rfl
 simp only[aT];refine bR 4 I (λ k j=>?_);go_simp;refine(ZZ.o _ _ _ _ (Y.below C) (Z9.below C)).mono ?_;rintro H ZH ⟨rfl,r⟩;have ZW:=au C r;go_simp;have v:aA (b.heap.size+1) (b.heap.size+1+1) A ZH:=aA.of_below ZW;refine eu ?_;intro p;clear j k r v;refine pQ ?_;refine zt ?_;refine bR 7 I (λ k j=>?_);go_simp;refine(Z5.o _).mono ?_;rintro H ZG ⟨rfl,r⟩;have Z2:=au ZW r;go_simp;have v:aA (b.heap.size+1) (b.heap.size+1+1) A ZG:=aA.of_below Z2;refine eu ?_;intro p;clear j k r v;obtain⟨L,N,O,P,Q,R,ZN,ZM,ZL,ZK,ZJ,ZI,ZT,F,ZR,ZQ,ZP,ZO⟩:=cq q Z2;refine bR 8 I (λ k j=>?_);refine c7 ?_;clear j k;refine bR 9 I (λ k j=>?_);refine c7 ?_;refine eh ?_;clear j k;replace Z2:=au X Z2;go_wp2;refine aK (v:=aL #[ba #[M a.s,aa c d f,M a.t,aa i g l,M a.a,aa m a.gg.length n],aE (ai (cM y++[10]))]) (by simp[aJ,results44,go_sem,ZT,F,ZR,ZQ,ZP,ZO,ZN,ZM,ZL,ZK,ZJ,ZI]) I ?_;have V:=eP (B:=b.heap.size+1) Z2 E (M a.s) (aa c d f) (M a.t) (aa i g l) (M a.a) (aa m a.gg.length n);exact kj):p:=h
theorem xp (h:p:=by
 refine cc ?_;intro z b c d f i g l m n x w t s u;have G:U (∀e,aC 39 #[aE (ai y)] e (aL #[am 0 aj 0 0,aw ak])):= λ e=>D2 y e R Q
 refine yq ?_;intro H;generalize ai y=ZO at G ⊢;clear Q R;go_enter func12,ntmps12;go_wp2_with fail;refine jR ?_;intro Z8 D B;rintro Z5 ZP ⟨rfl,K⟩;refine kl ?_;intro q T;clear B D K G;obtain⟨C,J,L,N,O,P,Z4,Z3,Z2,Z1,Z0,ZZ,W,X,Y,Zx,Z9,Z7⟩:=cq q bA;go_wp2_with fail;clear C J L N O P Z4 Z3 Z2 Z1 Z0 ZZ W X Y Zx Z9 Z7;refine hd ?_;intro A ZT;have ZY:ap ZP A:=by rw[<- ZT];exact az _ _
 clear ZT;have ZX:=q.below ZY;have ZR:=au T ZY;clear q ZY;refine gJ (λ e:af=>aA (b.heap.size+1) (b.heap.size+1+1) A e) (λ _=>True) 99 ah ?_;change de _ _ _ _ _ _ _ _ _ _ (dH A);have ZU:=bI A;have p:aA (b.heap.size+1) (b.heap.size+1+1) A (dH A):=aA.of_below ZU;refine eq 0 (v:=?_) I p (λ e S=>?_) ?_;rotate_left
 ·obtain⟨C,J,L,N,O,P⟩:=eJ ZX S;go_simp;first | done | rfl
 simp only[aT];refine eq 1 (v:=?_) I p (λ e S=>?_) ?_;rotate_left
 ·obtain⟨C,J,L,N,O,P⟩:=eJ ZX S;go_simp;first | done | rfl
 simp only[aT];refine bR 2 I (λ k j=>?_);go_simp;refine(H.o _).mono ?_;rintro Z5 ZQ ⟨rfl,r⟩;have F:=au ZU r;go_simp;have v:aA (b.heap.size+1) (b.heap.size+1+1) A ZQ:=aA.of_below F;refine eu ?_;intro p;clear j k r v;obtain⟨C,J,L,N,O,P,Z4,Z3,Z2,Z1,Z0,ZZ,W,X,Y,Zx,Z9,Z7⟩:=cq ZX F;refine bR 3 I (λ k j=>?_);refine c7 ?_;clear j k;refine bR 4 I (λ k j=>?_);refine c7 ?_;refine eh ?_;clear j k;replace F:=au ZR F;exact vN):p:=h
theorem xe (h:p:=by
 have Y:U (∀e,aC 32 #[aw y] e (aE (ai (iE y++[10])))):= λ e=>(EV y e).mono λ _ _ G=>⟨G.1,by rw[<- G.2];exact Below.refl _ _⟩
 clear F G;go_enter func11,ntmps11;go_wp2_with fail;refine hd ?_;intro A D;refine jh ?_;intro B q K;have ZZ:an A i g a.ys:=(s.row.below B).view;clear D;refine ia ?_;intro C p;refine ov ?_;refine bR 5 I (λ k j=>?_);go_simp;refine(T.o _ (K.below C) (ZZ.below C)).mono ?_;rintro Z Z3 ⟨rfl,r⟩;have Z8:=au C r;refine sP ?_;intro v;refine eu ?_;intro p;clear j k r v;refine bR 6 I (λ k j=>?_);go_simp;refine(Y.o _).mono ?_;rintro Z Z4 ⟨rfl,r⟩;have H:=au Z8 r;refine pR ?_;intro v;refine eu ?_;intro p;clear j k r v;obtain⟨L,N,O,P,Q,R,ZY,ZX,ZW,ZV,ZU,ZT,Z9,Z7,Z5,Z2,Z1,Z0⟩:=cq q H;refine bR 7 I (λ k j=>?_);refine c7 ?_;clear j k;refine bR 8 I (λ k j=>?_);refine c7 ?_;refine eh ?_;clear j k;replace H:=au B H;go_wp2;refine aK (v:=aL #[ba #[M a.s,aa c d f,M a.t,aa i g l,M a.a,aa m a.gg.length n],aE (ai (iE y++[10]))]) (by simp[aJ,results11,go_sem,Z9,Z7,Z5,Z2,Z1,Z0,ZY,ZX,ZW,ZV,ZU,ZT]) I ?_;exact pH):p:=h
theorem bl (h:p:=by
 clear K W;have K:=X;have W:Y4.size<=99000:=E;clear ZX X;go_wp2_with fail;refine(eN d _ 2 _ n E E).mono ?_;rintro f Zl ⟨_,rfl,⟨j,rfl,G,H⟩,A,c⟩;have p:=aA.below l E c E;have Zs:=c.size;clear c;by_cases r:j=0
 ·subst r;go_wp2;go_ret;subst q;exact⟨⟨_,I,E⟩,p⟩
 have Zx:(j==0)=ak:=by simpa using r
 clear r G H;go_wp2_with fail;refine(eN d _ 256 _ A E E).mono ?_;rintro f Zk ⟨_,rfl,⟨Y5,rfl,Zw,Zv⟩,B,c⟩;have y:=aA.below p E c E;have Zr:=c.size;clear c;go_wp2_with fail;refine(eN d _ 256 _ B E E).mono ?_;rintro f u ⟨_,rfl,⟨i,rfl,ZE,ZD⟩,C,c⟩;have V:=aA.below y E c E;have Zq:=c.size;have ZM:=C.1;clear c A B p y;obtain⟨a,ZH,ZJ⟩:∃a:J,Int.tmod (Y5+i) (Y4.size:F)=(a:F) /\ a<Y4.size:=by
  obtain⟨Y5,rfl⟩:∃k:J,Y5=(k:F):=⟨Y5.toNat,E⟩;obtain⟨i,rfl⟩:∃k:J,i=(k:F):=⟨i.toNat,E⟩;exact⟨(Y5+i)%Y4.size,by rw[<- Int.natCast_add];exact(Int.ofNat_tmod _ _).symm,Nat.mod_lt _ E⟩
 have Zy:IntKind.i64.wrap (Y5+i)=Y5+i:=bV _ E;have ZF:((Y4.size:F)==0)=ak:=by rw[dx];omega
 have z:∀v w:J,(Y4.extract v w).size<=100000:= λ v w=>by rw[DA];omega
 have ZK:(a:F)<=(Y4.size:F):=E;have ZI:a<=Y4.size:=E;have ZL:IntKind.i64.wrap (a:F)=(a:F):=bV _ E;go_wp2_with fail;go_region_held3 (λ R=>True) (trivial) (first | (go_at_call 20;refine(kL d _ u.heap.size 5 _ 1 _ (C.on aD) E (Dp u _ _ 5 1 rfl cS) ar E E E).mono ?_;rintro f ZZ ⟨_,rfl,⟨g,ZB,rfl⟩,Z8,Z5⟩;have N:¬9223372036854775807<a+g.size:=E;have ZQ:=(by have:=z 0 a;rw[cZ];omega:(Y4.extract 0 a++g).size<=100001);have D:aA d (d+1) u ZZ:=aA.trans (aA.of_below aD) Z5) | (go_at_call 19;refine(eN d _ 2 _ Z8 E E).mono ?_;rintro f Zn ⟨_,rfl,⟨e,rfl,ZA,Zz⟩,ZC,Z7⟩;obtain⟨e,rfl⟩:∃k:J,e=(k:F):=⟨e.toNat,E⟩;have Zj:(0:F)<=(a:F)+(e:F):=E;have Zi:(a:F)+(e:F)<=(Y4.size:F):=E;have Zh:IntKind.i64.wrap ((a:F)+(e:F))=(a:F)+(e:F):=(bV _ E);have Zp:¬9223372036854775807<a+g.size+(Y4.size-(a+e)):=E;have Zo:¬9223372036854775807<a+g.size+(Y4.size-((a:F)+(e:F)).toNat):=E));go_wp2;go_ret;subst q;refine⟨⟨_,I,?_⟩,?_⟩
 ·rw[cZ];have:=z ((a:F)+(e:F)).toNat Y4.size;omega
 ·exact aA.below (aA.below V E D E) (by have:=D.size;omega) Z7 E):p:=h
theorem sl (h:p:=by
 go_wp2_with fail;refine iU ?_;intro Zf Zy;obtain⟨ZA,ZB,Zc,Zh⟩:=GG ZX ZI ZR ZN ZV ZO Zy;clear Zy ZR ZX ZI ZO ZV B C D G Z4 Z3 Z2 Z1 Z0 ZZ S T V W X Y L N O P Q R;refine(te (ha z b.heap.size (ZQ+1)) a k ZM ZK ZL Zf _ (w.enter ZB aZ) (gE.new Zh (nA x E E))).mono ?_;rintro Zx Zb ⟨⟨Zd,rfl,Zz⟩,ZE⟩;have Zg:=Zz;obtain⟨Zk,Zm,Zr,Zj,Zl,Zq,Zn,Zp,rfl,_,_,_⟩:=Zz;obtain⟨Z4,Z3,Z2,Z1,Z0,ZZ,S,T,V,W,X,Y,L,N,O,P,Q,R⟩:=cq ZA ZE;have Zi:=au ZB ZE;clear ZE ZA;go_wp2;refine aK (v:=aL #[ba #[M (fi a k).s,aa Zk Zm Zr,M (fi a k).t,aa Zj Zl Zq,M (fi a k).a,aa Zn (fi a k).gg.length Zp],aE (ai (gW k++[10]))]) (by simp[aJ,results43,go_sem,L,N,O,P,Q,R,S,T,V,W,X,Y]) I ?_;exact⟨⟨_,I,Zg.leave (ie E E _ _ _ _ _ _)⟩,eP Zi E _ _ _ _ _ _⟩):p:=h
theorem lX (h:p:=by
 clear p j k;go_enter func92,ntmps92;go_wp2_with fail;refine iU ?_;intro ZX Z0;obtain⟨K,y,P,Q,N,O,L⟩:=tk Z0;have Z:an ZX c d a.xs:=(t.row.below y).view;have Z1:an ZX i g a.ys:=(s.row.below y).view;clear Z0;refine(v.o _ Z Z1).mono ?_;rintro ZY ZI ⟨⟨Z6,rfl,C⟩,H⟩;obtain⟨r,ZV,ZZ,rfl,ZJ⟩:=C.ints;clear Z Z1 ZJ v;exact wD):p:=h
theorem ss (h:p:=by
 refine s4 ?_;intro W p;clear j k r;obtain⟨L,N,O,P,Q,R,Z2,Z1,Z0,ZZ,ZY,ZX,Z9,Z8,Z7,Z5,Z4,Z3⟩:=cq q W;refine bR 5 I (λ k j=>?_);refine c7 ?_;clear j k;refine bR 6 I (λ k j=>?_);refine c7 ?_;refine eh ?_;clear j k;replace W:=au B W;go_wp2;refine aK (v:=aL #[ba #[M a.s,aa c d f,M a.t,aa i g l,M a.a,aa m a.gg.length n],aE (ai y++aN #[10])]) (by simp[aJ,results11,go_sem,Z9,Z8,Z7,Z5,Z4,Z3,Z2,Z1,Z0,ZZ,ZY,ZX]) I ?_;refine zk ?_;intro V;exact rX):p:=h
theorem vq (h:p:=by
 go_enter func92,ntmps92;go_wp2_with fail;refine iU ?_;intro ZH ZW;obtain⟨K,y,P,Q,N,O,L⟩:=tk ZW;have ZX:an ZH c d a.xs:=(t.row.below y).view;clear ZW;refine(v.o _ ZX).mono ?_;rintro ZY Zn ⟨⟨Z6,rfl,C⟩,H⟩;obtain⟨r,ZV,ZZ,rfl,ZI⟩:=C.ints;clear ZX ZI v;exact wD):p:=h
theorem wh (h:p:=by
 rw[G] at Y ⊢;clear G F;go_enter func11,ntmps11;go_wp2_with fail;refine hd ?_;intro A D;refine jh ?_;intro B q K;clear D;refine ia ?_;intro C p;refine kZ ?_;refine bR 3 I (λ k j=>?_);go_simp;refine od ?_;rintro ZZ Z0 ⟨rfl,r⟩;have W:=au C r;go_simp;have v:aA (b.heap.size+1) (b.heap.size+1+1) A Z0:=aA.of_below W;refine eu ?_;intro p;clear j k r v;obtain⟨L,N,O,P,Q,R,Z7,Z5,Z4,Z3,Z2,Z1,J,T,X,Z,Z9,Z8⟩:=cq q W;refine bR 4 I (λ k j=>?_);refine c7 ?_;clear j k;refine bR 5 I (λ k j=>?_);refine c7 ?_;refine eh ?_;clear j k;replace W:=au B W;go_wp2;refine aK (v:=aL #[ba #[M a.s,aa c d f,M a.t,aa i g l,M a.a,aa m a.gg.length n],aE (ai (y++[10]))]) (by simp[aJ,results11,go_sem,J,T,X,Z,Z9,Z8,Z7,Z5,Z4,Z3,Z2,Z1]) I ?_;refine zk ?_;intro V;exact kj):p:=h
theorem xw (h:p:=by
 clear g n;go_enter func45,ntmps45;go_wp2;go_loop [5,6] (λ c r=>∃(b w:J),b<=a.size /\ r=M b /\ c=M w /\ U (Lib.decFrom 0 (a.data.toList.take b)=Z w)) (λ _ r=>a.size-(intOf r).toNat)
 case atStart=>exact⟨0,0,E,I,I,I⟩
 case round =>
  obtain⟨b,c,S,rfl,rfl,j⟩:=hrel;have D:=zY _ _ _ j.o;have G:=Br (k:=b) E;have T:c<100000000000000000:=E;clear D G;by_cases C:b<a.size
  ·have p:=ab (jq a b C);obtain⟨e,q⟩:∃e:F,e=(a[b].toNat:F):=⟨_,I⟩;have W:=q.symm;have V:0<=e /\ e<256:=by have:=(a[b]).toNat_lt;omega
   have o:=ab q;clear q;by_cases Q:e<48
   ·exact vW
   by_cases R:57<e
   ·exact vW
   have s:U (Lib.decFrom 0 (a.data.toList.take (b+1))=Z (c*10+(e-48).toNat)):=by
    exact x4
   exact wx
  ·have B:b=a.size:=E;have Z9:U (Lib.decFrom 0 a.data.toList=Z c):=by show _=_;rw[<- j.o,jF (by rw[eE];omega)]
   clear B;go_wp2;refine aK (v:=aL #[M ((c:F)),aw ae]) (by simp[aJ,results45,go_sem]) I ⟨by rw[i.o,f.o,Z9.o];rfl,I⟩):p:=h
theorem xD (h:p:=by
 have Z0:=ab (AK d k b);cases ZV:iM d (b:F)
 ·obtain⟨D,Z1⟩:∃D,U (iL d k b=D):=⟨_,I⟩;rw[Z1.o] at q Z9;obtain⟨g,Zy⟩:∃g,D.length=g:=⟨_,I⟩;have ZZ:Below j.heap.size j (wr.alloc (al #[] 3)):=n.alloc Q _;have Zz:([]++d).length=e:=by simpa using Z5
  have ZT:=q.block;go_wp2_with (first | (at_builtin;refine zx rfl _ _ rfl wr.heap.size _ [] 0 rfl a6 (av.lit wr) f.heap.size _ d a6 (w.below ZZ) E ar ?_;intro Zd Y7 Zb ZS T ZY;have S:ap wr ZS:=cV (az wr _) ar ZY (λ s l=>by have:=dD l;omega);have Zv:=S.size;clear ZY ZZ) | (at_builtin;refine iz rfl _ _ rfl wr.heap.size _ ([]++d) e Zz a6 (T.below (az ZS _)) _ _ (b:F) a6 ar E (by simp;omega) ?_;intro ZC ZD W V ZX;have H:ap wr W:=cV (S.alloc Zv _) (by simp;omega) ZX (λ s l=>(T.block s l).1);have ZU:=q.below H;have Y8:=H.size;have Zw:=V.block;clear ZX S T) | (at_builtin;refine zE rfl _ _ rfl j.heap.size _ D g Zy a6 (ZU.below (az W _)) _ _ (aq ZC (e+1) ZD) ([]++d++[(b:F)]) a6 ar ((V.mono E).below (az W _)) (λ s ZB ZA=>by have:=(Zw s ZB).1;have:=(ZT s ZA).2;omega) E (by simp;omega) ?_;intro Za Zc Y6 Zx ZW Y9));have ZE:=ab (cV (B:=j.heap.size) ((n.trans (H.mono Q)).alloc E _) (by simp;omega) ZW (λ s l=>(ZT s l).1));have r:U (iL d k (b+1)=D++[[]++d++[(b:F)]]):=by rw[U,Z0.o,ZV,Z1.o];rfl
  clear ZW H V ZU q;go_roundw
  case rel=>exact⟨b+1,_,E,by go_num,I,by rw[r.o];exact Zx,ZE.o⟩
  case measure=>simp[intOf];omega
 ·have r:U (iL d k (b+1)=iL d k b):=by rw[U,Z0.o,ZV];rfl
  go_wp2;go_roundw
  case rel=>exact⟨b+1,_,E,by go_num,I,by rw[r.o];exact q,n⟩
  case measure=>simp[intOf];omega):p:=h
theorem DG (h:p:=by
 have V:=G.below k;rw[B.o];have ZL:=k.size;go_wp2_with (at_builtin;refine iz I _ _ I e _ _ b D.o a6 (V.below (az ZU _)) _ _ (g b) a6 ar E (by simp;omega) ?_;intro ZM ZN d Z9 C);have R:=ab (cV (B:=e) ((y.trans (k.mono E)).alloc E _) (by simp;omega) C (λ ZT q=>(V.block ZT q).1));exact yh):p:=h
theorem xl (h:p:=by
 have ZC:=k.size;go_wp2_with (at_builtin;refine iz I _ _ I (a.heap.size+1) _ _ b W.o a6 (V.below (az L _)) _ _ (u b) a6 ar E (by simp;omega) ?_;intro ZD Z8 d Z9 C);have R:=ab (cV (B:=a.heap.size+1) ((y.trans (k.mono E)).alloc E _) (by simp;omega) C (λ Z7 Z2=>(V.block Z7 Z2).1));exact yh):p:=h
theorem xi (h:p:=by
 generalize ai (bG e j)=Zu at r ⊢;clear J ZJ ZT;go_enter func43,ntmps43;go_wp2_with fail;refine qd ?_;intro ZP y Z7 Z5 K v A ZY;obtain⟨Z4,Z3,Z2,Z1,Z0,ZZ,S,T,V,W,X,Y,L,N,O,P,Q,R⟩:=cq v bA;clear Z5 Z7 K r;go_wp2_with fail;refine iU ?_;intro Z8 H;refine s8 ?_;intro ZQ Z9 ZU B C D G ZV ZN ZW;have ZF:=au A Z9;have ZC:an Z8 c d a.xs:=(t.row.below ZF).view;clear H ZU Z9 v A ZY Z4 Z3 Z2 Z1 Z0 ZZ S T V W X Y L N O P Q R;refine(ZG.o _ ZC).mono ?_;refine s1 ?_;intro ZH ZM ZK ZL ZR q ZS ZO D G B C ZX;have ZI:=au ZF q;obtain⟨Z4,Z3,Z2,Z1,Z0,ZZ,S,T,V,W,X,Y,L,N,O,P,Q,R⟩:=cq ZX bA;clear ZW ZF ZC ZS ZG q;exact sl):p:=h
theorem w0 (h:p:=by
 have Z8:=au C r;refine sP ?_;intro v;refine eu ?_;intro p;clear j k r v;refine zt ?_;refine sJ ?_;refine bR 8 I (λ k j=>?_);go_simp;refine(Z5.o _).mono ?_;rintro Z ZR ⟨rfl,r⟩;have W:=au Z8 r;go_simp;have v:aA (b.heap.size+1) (b.heap.size+1+1) A ZR:=aA.of_below W;refine eu ?_;intro p;clear j k r v;obtain⟨L,N,O,P,Q,R,ZX,ZW,ZV,ZU,ZT,ZS,Z7,Z2,Z1,Z0,ZZ,ZY⟩:=cq q W;refine bR 9 I (λ k j=>?_);refine c7 ?_;clear j k;refine bR 10 I (λ k j=>?_);refine c7 ?_;refine eh ?_;clear j k;replace W:=au B W;go_wp2;refine za ?_;have V:=eP (B:=b.heap.size+1) W E (M a.s) (aa c d f) (M a.t) (aa i g l) (M a.a) (aa m a.gg.length n);exact kj):p:=h
theorem si (h:p:=by
 go_wp2;refine aK (v:=bz 0 0 ak) (by simp[aJ,results158,go_sem,c,d,e,f]) I ⟨?_,?_⟩
 ·exact⟨λ a b g j=>bC j (X.o a b g),λ _=>rfl⟩
 ·exact aD):p:=h
theorem vI (h:p:=by
 go_simp;refine sU ?_;refine eh ?_;clear j k;have Q:=KN c Zq;have S:=G.trans ((bW.of_below (D:=m) (B:=Z3) R).trans (bW.of_span (ie (A:=m) (B:=m+1) (C:=m) aZ (gB _) (M v.s) (aa YW YY Y2) (M v.t) (aa YV YX Y1) (M v.a) (aa YZ v.gg.length Y0))));generalize Yt:((((((_:af).setCell _ _).setCell _ _).setCell _ _).setCell _ _).setCell _ _).setCell _ _=Yd at Q S ⊢;clear d c R Zq Zw Zv Zu Zt Zs Zr YU YT YS YR YQ YP Yt;go_wp2;go_roundw
 case rel=>first | exact⟨e+1,E,by go_num,⟨_,v,by rw[C.o],D,x,o,Q⟩,S⟩ | exact⟨_,⟨e+1,E,by go_num,⟨_,v,by rw[C.o],D,x,o,Q⟩,S⟩,rfl⟩ | exact⟨_,_,⟨e+1,E,by go_num,⟨_,v,by rw[C.o],D,x,o,Q⟩,S⟩,rfl,rfl⟩ | exact⟨_,_,_,⟨e+1,E,by go_num,⟨_,v,by rw[C.o],D,x,o,Q⟩,S⟩,rfl,rfl,rfl⟩ | exact⟨_,_,_,_,⟨e+1,E,by go_num,⟨_,v,by rw[C.o],D,x,o,Q⟩,S⟩,rfl,rfl,rfl,rfl⟩ | exact⟨_,_,_,_,_,⟨e+1,E,by go_num,⟨_,v,by rw[C.o],D,x,o,Q⟩,S⟩,rfl,rfl,rfl,rfl,rfl⟩
 case measure=>simp[intOf];omega):p:=h
theorem oc (h:p:=by
 have:av ((a.alloc (al #[M g,aa e c m] 29)).alloc (al #[] 3)) (a.alloc (al #[M g,aa e c m] 29)).heap.size (aq ((a.alloc (al #[M g,aa e c m] 29)).heap.size) 0 0) []:=fF _ #[] 0 aZ (by unfold maxLen;omega) I;rw[i] at this;simpa using this):p:=h
theorem vZ (h:p:=by
 have X3:i<=4:=E;go_wp2_with fail;obtain⟨ZC,Zg,ZB,X,C⟩:=b.ints;injection X with Y XZ Z9
 subst Y XZ Z9;refine(hk a _ _ _ _ _ C ZI.2 (λ Z4 Z8=>by have:=k Z4 Z8;omega)).mono ?_;rintro j S ⟨⟨Zf,rfl,q⟩,l⟩;obtain⟨W,Z3,K,rfl,Zv⟩:=q.ints;have Zu:=(ry a e);have Zs:=b.len;replace d:=d.below l;replace f:=f.on l;replace c:=c.trans (aA.of_below l);have ZN:=l.size;clear l C b;obtain⟨u,v,x,y,L⟩:=d;cases Z6:(bh a e).ok
 ·generalize (bh a e).size=Zh;exact pN
 ·obtain⟨_,Zt,_,D,_⟩:=pc Z6;have Z7:=(cv D).2.1;go_wp2;refine aK (v:=am a W Z3 K) (by simp[aJ,results61,go_sem,u,v,x,y,L,fr]) I ⟨_,I,⟨_,_,I,?_,Z7,D⟩,?_,?_⟩
  ·refine av.mono (base:=wr.heap.size) ?_ E;exact pB
  ·exact(f.below (B:=g+1) aD E).mono E
  ·exact c.on aD):p:=h
theorem r3 (h:p:=by
 clear b z r E o A N O;go_wp2_with fail;refine(n.o _ aD).mono ?_;rintro f C ⟨⟨F,rfl,Z5⟩,B⟩;obtain⟨Y,Z8,Z9,rfl,ZT⟩:=Z5.ints;have Z6:ap d C:=bJ B;have ZZ:=Z5.mono (by simp<;>omega:d.heap.size<=_);replace P:=ag Z6 P;replace Q:=ag Z6 Q;replace R:=ag Z6 R;replace S:=ag Z6 S;replace T:=ag Z6 T;go_wp2_with fail;refine(L.o _ _ _ _ Z6 ZZ).mono ?_;rintro f ZS ⟨rfl,Z0,Z4⟩;have ZY:=(g.trans (bW.of_below (D:=p) (B:=s) Z6)).trans Z4;clear Z4 B;go_wp2;go_ret;exact⟨I,Z0,ZY⟩):p:=h
theorem wW (h:p:=by
 go_wp2_with fail;refine yx ?_;rintro f l ⟨_,rfl,⟨x,r,rfl⟩,i,a⟩;replace a:=j.trans ((aA.of_below (az d _)).trans a);have w:=a.size;obtain⟨c,v,G⟩:∃c,O [2,3,2,4,1] x=c /\ bK c=ae:=⟨_,I,DC x r⟩;rw[v];clear v r j ZK;go_wp2_with fail;refine(Dn e _ c _ i E G).mono ?_;rintro f A ⟨_,rfl,⟨Z5,m,rfl,u,_,_⟩,t,k⟩;obtain⟨B,P,C,rfl,s⟩:=u.ints;go_wp2_with fail;refine(k9 c B P C m A s).mono ?_;rintro f S ⟨rfl,g⟩;have p:=t.on g;have q:=(a.trans k).trans (aA.of_below g);have D:(ai (bd c m)).size<=220:=by rw[bs];exact hJ c m
 generalize ai (bd c m)=o at *;clear u s a k g i t;have H:(aN #[108,101,102,116,32]).size=5:=rfl;have z:¬9223372036854775807<(aN #[108,101,102,116,32]).size +o.size:=E;exact ob):p:=h
theorem DH (h:p:=by
 go_wp2_with fail;refine(kL e _ _ 7 _ 100 _ ((i).on (az l _)) E (lD l _ _ 7 100 I cS) ar E E E).mono ?_;rintro f A ⟨_,rfl,⟨Z4,ZM,rfl⟩,p,k⟩;replace k:=(aA.of_below (az l _)).trans k;have ZL:=k.size;have q:=(j.trans a).trans k;have z:¬9223372036854775807<T.size+Z4.size:=E;exact ob):p:=h
theorem vK (h:p:=by
 obtain⟨b,i,X,rfl,rfl,d,c⟩:=hrel;by_cases l:b<g
 ·obtain⟨u,Y,rfl,R,N,T⟩:=w.at c l;obtain⟨Q,Z8,rfl,S,P,U⟩:=x.at c l;have V:=s.o b l;have W:=t.o b l;have C:=ab (i0 e f b);refine k7 ?_;intro G Z9;go_wp2;go_region_law (refine zw I _ _ I a.heap.size _ _ b C.o I (d.below (bA.drew.alloc aZ _)) _ _ (O e b-O f b) I (by simp;first | done | (apply bV;omega)) E (by simp;have:=c.size;omega) ?_;intro L K j B v);all_goals
   have A:=ab (cV (B:=a.heap.size) (c.drew.alloc (by simp;have:=c.size;omega) _) (by simp;have:=c.size;omega) v (λ u k=>(d.block u k).1));clear v d c;go_wp2;go_roundw
   case rel=>exact⟨b+1,_,E,by go_num,I,B,A.o⟩
   case measure=>simp[intOf];omega
 ·exact r7):p:=h
theorem mR (h:p:=by
 go_enter func45,ntmps45;go_wp2;all_goals refine aK (v:=aL #[M (0),aw ak]) (by simp[aJ,results45,go_sem]) I ⟨by rw[i.o,f.o];rfl,I⟩):p:=h
theorem lW (h:p:=by
 go_round
 case rel=>exact⟨a+1,E,by go_num⟩
 case measure=>simp[intOf];omega):p:=h
theorem xC (h:p:=by
 obtain⟨ZI,Zx,rfl,ZC,ZK,ZB⟩:=o.at z A;have Zy:=Z9.o b A;have Z5:((a.map (· /c)).take b).length=b:=by rw[List.length_take,ec,q.o];omega
 have ZV:=ab Z5;clear Z5;have ZD:=lt_of_block g;have P:=ab g;clear g;have ZA:¬c=0:=E;have Zz:=Nd (O a b) c E E E;have Z6:=Z8.o b (by rw[q.o];exact A);have ZW:=ab Z6;clear Z6;go_wp2;go_region_law ((refine zw I _ _ I (f.heap.size+1) p _ b ZV.o I (m.below ?_) _ _ (O a b/c) I ?_ ?_ ?_ ?_;exact(bA.drew.alloc aZ _);simp;omega;(simp;omega);intro ZH x ZJ ZX ZR;obtain⟨ZG,ZF,ZU,ZT,ZS,ZE⟩:=Gl P.o (gB _) m e (bA.drew.alloc aZ _) ZX ZR));all_goals
  go_wp2;go_roundw
  case rel=>exact⟨b+1,_,E,by go_num,ZU,by rw[ZW.o];exact ZT,ZS⟩
  case measure=>simp[intOf];omega):p:=h
theorem pL (h:p:=by
 obtain rfl:b=c:=E;go_wp2_with fail;refine(A.o _ (n.below f)).mono ?_;rintro G x ⟨rfl,o⟩;have q:=v.below o;have r:=au f o;replace w:=ag o w;replace z:=ag o z;exact w5):p:=h
theorem pB (h:p:=by
 (repeat (first | exact q | (refine av.setBelow ?_ ?_ _;rotate_left;focus (first | (omega) | (simp;done) | (simp;omega))) | (refine av.setOther ?_ ?_ _;rotate_left;focus (intro Zc;have Zb:=dD Zc;first | (omega) | (simp at Zb;omega))) | refine av.below ?_ (az _ _)))):p:=h
theorem vQ (h:p:=by
 obtain⟨Z9,C⟩:∃Z9:J,O b a=(Z9:F):=⟨(O b a).toNat,E⟩;have c:(O b a).toNat=Z9:=E;have w:U (fO b (a+1)=fO b a|||2^Z9):=by
  show fO b a|||2^(O b a).toNat=_;rw[c]
 rw[c] at m;have Z8:=gO Z9 E;have N:=ab (mo (fO b a) Z9 E E);have P:=ab (kd B (Nat.pow_lt_pow_right aX (by omega:Z9<4)));rw[C] at A y z j;have Y:=m;clear x C c;go_wp2_with (first | (go_at_call 113;refine(fM _ _ _ _).mono ?_;rintro c e ⟨rfl,rfl⟩) | (go_at_call 66;refine(lk _ _ _ E E E).mono ?_;rintro c e ⟨rfl,rfl⟩));exact xa):p:=h
theorem wo (h:p:=by
 obtain⟨a,x,rfl,rfl⟩:=hrel;by_cases s:a<c
 ·obtain⟨u,z,rfl,v,_,w⟩:=i.at bA s;have e:U (ew b d (a+1)=if d<=O b a then ew b d a|||2^a else ew b d a):=rfl;have p:=uD b d a;have q:=IW (k:=a) E;have y:=gO a E;have r:ew b d a<1000000000:=E;have o:=ab (mo (ew b d a) a r E);clear p q;by_cases j:d<=O b a
  ·rw[a7 j] at e;go_wp2;go_round
   case rel=>exact⟨a+1,E,by go_num,by rw[e.o,o.o]⟩
   case measure=>simp[intOf];omega
  ·rw[aF j] at e;go_wp2;go_round
   case rel=>exact⟨a+1,E,by go_num,by rw[e.o]⟩
   case measure=>simp[intOf];omega
 ·obtain rfl:a=c:=E;exact h8):p:=h
theorem wa (h:p:=by
 go_simp;refine j _ _ (d.setCell (show e<=e from bL _) _) (λ a=>bC a aX) ?_;refine eh ?_;clear j k;refine⟨(aq wr.heap.size 1 1,aq s (i+1) Z7),?_,?_⟩
 ·simp[aT]
 ·have Zk:av C (e+1) (aq s (i+1) Z7) (hO p g (i+1)):=by
   rw[R.o];unfold av;rw[dm,kF,g7];exact ZX
  have YD:=Zk.block s I
  refine⟨(c3 _ _ _ _ ar).trans ZY,fZ _ _ _ Zr,by simp[ZD],Zk.setOther (a:=(ad e 1)) (λ u=>by have:=dD u;simp at this;omega) _,(x.trans (d.mono aZ)).setCell (show e<=e from bL _) _⟩):p:=h
theorem kU (h:p:=by
 go_round
 case rel=>exact⟨a+1,E,by go_num,by rw[k.o,d];simp⟩
 case measure=>simp[intOf];omega):p:=h
theorem wH (h:p:=by
 obtain⟨a,N,rfl,x,g⟩:=hrel;have k:=ab x;clear x;by_cases m:a<b
 ·obtain⟨d,P,rfl,G,y⟩:=n.o a m;replace y:=(g.cell (p:=⟨d,P+a,aj⟩) G).trans y;go_wp2_with fail;refine(o.o a wr m g).mono ?_;rintro f O ⟨rfl,D⟩;have w:=au g D;cases z:c a
  ·go_wp2;go_roundw
   case rel=>exact⟨a+1,E,by go_num,by show (bq (λ a=> !c a) a&& !c a)=ae;rw[k.o,z];rfl,w⟩
   case measure=>simp[intOf];omega
  ·have C:U (bq (λ a=> !c a) b=ak):=jn m (by simp[z]);go_wp2;go_ret;exact⟨⟨_,I,by rw[C.o];simp⟩,w⟩
 ·exact xU):p:=h
theorem rV (h:p:=by
 refine av.below ?_ i;have:av ((a.alloc (al #[M g,aa q m r] 29)).alloc (al #[] 3)) (a.alloc (al #[M g,aa q m r] 29)).heap.size (aq ((a.alloc (al #[M g,aa q m r] 29)).heap.size) 0 0) []:=fF _ #[] 0 aZ (by unfold maxLen;omega) I;simpa [cQ,bx] using this):p:=h
theorem xF (h:p:=by
 have z:=ab e;clear e;refine ji ?_;intro q y B a m l A k x s d u v;go_enter func15,ntmps15;go_wp2_with fail;refine km ?_;intro C i f b g;clear i d;go_wp2_with fail;refine(EU c _ w z.o (k.below f)).mono ?_;rintro n D ⟨rfl,j⟩;refine m8 ?_;intro G K;clear j b g;go_wp2;go_ret;refine⟨I,⟨l,G.below ?_⟩,K.trans (bW.of_below ?_)⟩;all_goals exact aD):p:=h
theorem yb (h:p:=by
 have N:=q.below K;have ZE:=K.size;have S:=u.trans (K.mono E);clear q u K;go_wp2_with (at_builtin;refine iz I _ _ I (a.heap.size+1) _ _ b Z7.o a6 (N.below (az Z1 _)) _ _ (k b) a6 ar E (by simp;omega) ?_;intro ZF ZG d Z9 C);refine sK ?_;intro R;refine pY ?_;intro T;clear C N f r S;exact rQ):p:=h
theorem jQ (h:p:=by
 refine dn ?_;refine dg ?_;intro Q L;go_wp2;go_ret;exact⟨I,L⟩):p:=h
theorem vC (h:p:=by
 simp only[b9,hB] at f;obtain⟨w,u,m,d,n,p⟩:=Region.waitsFor_spec f.2;have H:=List.mem_range.1 o;have G:done.getD e ak=ae->False:= λ k=>by
  have:=q.closed e w u k m d n;rw[p,getD_both P] at this;cases this
 rcases Nat.eq_or_lt_of_le (Nat.le_of_lt_succ H) with r | r
 ·subst r;obtain rfl:w=t:=iO (u.symm.trans i);have:=s m d n;rw[p,getD_both P] at this;cases this
 ·cases k:done.getD e ak with
  | true=>exact G k
  | false=>exact v (a-e) E e I r (getD_in (by rw[q.size];omega) k) a aZ l):p:=h
theorem pJ (h:p:=by
 refine et ?_;intro L k;have ZS:=ab (au w k);clear k;go_wp2;go_roundw
 case rel=>exact⟨b+1,E,E,by go_num,by rw[K.o],ZS.o⟩
 case measure=>simp[intOf];omega):p:=h
theorem wJ (h:p:=by
 obtain⟨B,G,ZO,ZN⟩:=cj t.heap.size K I;have n:ap t T:=bJ K;have ZM:t.heap.size<T.heap.size:=b6 B;refine l6 ?_;intro e f c d;have ZD:=au A n;clear K L n;exact si):p:=h
theorem vr (h:p:=by
 have ZX:=ab j;clear j;go_wp2;refine ei 5 ah ah (λ _ _ _ _ _ C=>C) ?_;refine dY ?_;repeat (first | go_big_quiet_step ((fail)) | quiet_step ((fail)))
 refine et ?_;intro L k;go_wp2_with fail;refine(nf _ _ _ _ _ _ _ _ _ _ (s.below k) (D.below k)).mono ?_;rw[y];rintro t G ⟨rfl,g⟩;have ZY:=ab (au (au ZX.o k) g);clear k g;go_wp2;go_roundw
 case rel=>exact⟨a+1,E,by go_num,ZY.o⟩
 case measure=>simp[intOf];omega):p:=h
theorem w4 (h:p:=by
 obtain⟨Z4,L⟩:∃Z4:J,O b a=(Z4:F):=⟨(O b a).toNat,E⟩;have w:U (fO b (a+1)=fO b a|||2^Z4):=by
  have k:(O b a).toNat=Z4:=E;show fO b a|||2^(O b a).toNat=_;rw[k]
 have Z5:=gO Z4 E;have N:=ab (mo (fO b a) Z4 E E);have P:=ab (kd n (Nat.pow_lt_pow_right aX (by omega:Z4<4)));replace n:=ab n;rw[L] at K G H;clear d D L;go_wp2;exact xa):p:=h
theorem pH (h:p:=by
 refine zr ?_;intro V;exact kj):p:=h
theorem pw (h:p:=by
 have:av (i.alloc (al #[] 3)) i.heap.size (aq i.heap.size 0 0) []:=fF _ #[] 0 aZ (by unfold maxLen;omega) I;rw[n,m] at this;simpa [cQ,bx] using this):p:=h
theorem sx (h:p:=by
 have ZQ:b=c:=E;subst ZQ;obtain⟨ZB,S,Z8,rfl,N⟩:=G.ints;have ZT:S=b:=by rw[<- N.len];exact gn u b
 subst ZT;have ZS:=ab N;go_wp2_with fail;refine(D7 _ _ _ _ _ ZS.o E Z6).mono ?_;rintro Z2 ZA ⟨rfl,ZR⟩;go_wp2;go_ret;exact⟨by rw[Gg];rfl,au f ZR⟩):p:=h
theorem xv (h:p:=by
 unfold iI;rw[aF t,aF B,aF G,aF x,aF H,aF A,aF z,aF F,aF u,aF y,aF w,aF v,aF E,aF C,aF D,aF m,aF p,aF q,aF l,aF f,aF o,aF g,aF r,aF i,aF Q,aF k,aF s,aF n,aF j,aF L,aF J,aF K,aF M,aF I,aF b,aF a]):p:=h
theorem vM (h:p:=by
 have Yh:(l++[m]).length=g+1:=by rw[dm,B];rfl
 have Yj:=ab (t.grown2 (Ab (X.alloc E _) Zz) (λ o f=>by have:=Z4 o f;omega));have Yi:U (∀o,(aa (Z (ad Zh 0)) (g+1) Zj).ownBlock=Z o->o=d.heap.size+1 \/ V.heap.size<=o):= λ o f=>by
  have z:=dD f;subst z;rcases Zy with Zn | Zn
  ·exact Z4 _ Zn
  ·simp at Zn;omega
 clear Zz Zy r Z4 t;go_roundw
 case rel=>exact⟨b+1,_,E,by go_num,I,by rw[ZS.o,Yh];exact Y6,Yj.o,Yi.o⟩
 case measure=>simp[intOf];omega):p:=h
theorem wu (h:p:=by
 have X:U (∀a b,bH a b=ae->bG a b≠i):= λ a b g j=>by obtain⟨rfl,rfl⟩:=u.o a b g j;exact w g
 rw[Bool.not_eq_true] at w;rw[w] at P;clear w u;go_wp2_with fail;refine(P.o _).mono ?_;rintro r F ⟨rfl,s⟩;have n:ap t F:=bJ s;refine l6 ?_;intro e f c d;have W:=au A n;have ZE:D.heap.size<F.heap.size:=b6 c;clear s n;exact si):p:=h
theorem vS (h:p:=by
 obtain rfl:a=4:=E;by_cases B:gr b 4=[]
 ·have n:=ab (kr (gr b 4) ae (by rw[B];rfl));have y:=n.o;have j:U (cd b=[45]):=by show cd b=[45];unfold cd;rw[a7 B]
  clear B;exact pC
 ·have n:=ab (kr (gr b 4) ak (by cases f:gr b 4 with | nil=>exact bC f B | cons _ _=>rfl));have y:=n.o;have j:U (cd b=gr b 4):=by show cd b=_;unfold cd;rw[aF B]
  clear B;exact pC):p:=h
theorem vN (h:p:=by
 go_wp2;refine sB ?_;have V:=eP (B:=b.heap.size+1) F E (M a.s) (aa c d f) (M a.t) (aa i g l) (M a.a) (aa m a.gg.length n);exact kj):p:=h
theorem xP (h:p:=by
 have j:∀b,0<b->b<10->(it (48+b))≠48:= λ b m n c=>by
  have:=be UInt8.toNat c;simp[mL] at this;omega
 unfold eV;rw[aF,oJ]
 ·rfl
 simp only[not_or,not_and];refine⟨pa a,E,λ c=>?_⟩;have i:a=0:=by
  rcases Nat.eq_zero_or_pos a with d | d
  ·exact d
  ·rw[g] at c;exact bC (iO c) (j b (f d) e)
 subst i;refine⟨by rw[Lib.decDigits,dif_pos E];simp,λ c=>bC (o c) E⟩):p:=h
theorem wp (h:p:=by
 have n:ap t F:=bJ s;refine l6 ?_;intro e f c d;have W:=au A n;clear s n;go_wp2_with fail;refine(O.o _ (V.below W).pow).mono ?_;rintro r Z5 ⟨rfl,R⟩;refine oe ?_;intro e f c d ZZ;have ZS:D.heap.size<Z5.heap.size:=b6 c;clear R;exact si):p:=h
theorem wg (h:p:=by
 go_wp2;all_goals refine aK (v:=aL #[M (0),aw ak]) (by simp[aJ,results45,go_sem]) I ⟨by rw[i.o,f.o,Z9.o];rfl,I⟩):p:=h
theorem vx (h:p:=by
 go_wp2;refine aK (v:=bz 0 0 ak) (by simp[aJ,results98,go_sem,c,d,e,f]) I ⟨?_,?_⟩
 ·exact⟨λ a b g j=>bC j (B.o a b g),λ _=>rfl⟩
 ·exact aD):p:=h
theorem w6 (h:p:=by
 have c:=List.all_eq_true.1 y b (List.mem_range.2 z);simp only[Bool.or_eq_true,hB] at c;rcases c with c | c
 ·omega
 ·obtain⟨e,o,f⟩:=List.any_eq_true.1 c;simp only[b9,hB] at f;obtain⟨L,K,m,d,n,p⟩:=Region.waitsFor_spec f.2;obtain rfl:L=t:=iO (K.symm.trans i);have x:=s m d n;rw[p,getD_both (q.tail e f.1 (by have:=List.mem_range.1 o;omega))] at x;cases x):p:=h
theorem sk (h:p:=by
 go_enter func153,ntmps153;go_wp2_with fail;refine pU ?_;rw[j];rintro i R ⟨rfl,W⟩;obtain⟨v,w,l⟩:=dZ W;clear W;exact kV):p:=h
theorem rW (h:p:=by
 go_wp2_with fail;refine qg ?_;intro j i;refine e5 ?_;intro l;clear i;exact kV):p:=h
theorem h8 (h:p:=by
 go_wp2;exact mQ):p:=h
theorem vB (h:p:=by
 clear A G N E D q C;go_wp2_with fail;refine B.o.mono ?_;rintro f Z8 ⟨rfl,j⟩;have T:=J.trans (j.mono J.size);go_wp2_with fail;refine(zv a _ (r.below T).pow).mono ?_;rintro f Z7 ⟨rfl,z⟩;exact vG):p:=h
theorem ob (h:p:=by
 go_wp2;go_ret;exact⟨_,I,⟨_,(by rw[cZ];omega),I⟩,p.mono E,q⟩):p:=h
theorem x9 (h:p:=by
 refine av.mono (base:=b.heap.size+1) ?_ E;show av _ _ _ ((bE (aH a) 0).set c 1)
 (repeat (first | exact q | (refine av.setBelow ?_ ?_ _;rotate_left;focus (first | (omega) | (simp;done) | (simp;omega))) | (refine av.setOther ?_ ?_ _;rotate_left;focus (intro z;have A:=dD z;first | (omega) | (simp at A;omega))) | refine av.below ?_ (az _ _)))):p:=h
theorem sy (h:p:=by
 go_wp2_with fail;refine k4 ?_;rintro f E ⟨rfl,j⟩;obtain⟨_,_,l⟩:=dZ j;clear j;exact kV):p:=h
theorem vm (h:p:=by
 refine ou ?_;intro K N D;obtain⟨Zc,ZI,YL,ZJ⟩:=dC K C (cP m q g);have YM:=ab (eO (eO o (iC k (Z x))) ZJ);have Zr:=ab ZI;clear ZI ZJ K t k o ZL ZK;go_wp2;rw[Zr.o];exact w3):p:=h
theorem jP (h:p:=by
 go_wp2;go_ret;exact⟨I,Below.refl _ _⟩):p:=h
theorem sf (h:p:=by
 rw[l] at i v;rw[i,v];rcases m E with ⟨e,j,k⟩ | e
 ·refine bj ⟨λ d o=>?_,j,k⟩;by_cases r:d=a
  ·rw[r];exact l
  ·exact e d E
 ·exact aP e):p:=h
theorem x7 (h:p:=by
 have:av ((a.alloc (al #[M (c:F),aa g e p] 29)).alloc (al #[] 3)) (a.alloc (al #[M (c:F),aa g e p] 29)).heap.size (aa (Z ⟨(a.alloc (al #[M (c:F),aa g e p] 29)).heap.size,0,aj⟩) 0 0) []:=fF _ #[] 0 aZ (by unfold maxLen;omega) I;rw[m] at this;simpa [cQ,bx] using this):p:=h
theorem vn (h:p:=by
 refine l6 ?_;intro e f c d;have Zu:=au ZK n;have Zt:=n.size;clear t n;go_wp2;refine aK (v:=bz k m ae) (by simp[aJ,results98,go_sem,c,d,e,f]) I ⟨?_,?_⟩
 ·exact Q.o
 ·exact aD):p:=h
theorem xy (h:p:=by
 have Y1:=k.size;have ZI:=ab (iD (l.trans (k.mono E)) E A aZ);have ZH:a.heap.size+1+1<ZW.heap.size:=by have:=A.size;omega
 have ZJ:=ab T;clear T A B k;exact wT):p:=h
theorem wm (h:p:=by
 unfold dt;rw[aF q,aF y,aF z,aF B,aF w,aF (not_or.2 ⟨o,not_or.2 ⟨x,not_or.2 ⟨t,A⟩⟩⟩),aF (not_or.2 ⟨u,not_or.2 ⟨n,not_or.2 ⟨r,not_or.2 ⟨v,not_or.2 ⟨s,not_or.2 ⟨p,m⟩⟩⟩⟩⟩⟩)]):p:=h
theorem vp (h:p:=by
 clear k;go_wp2;go_roundw
 case rel=>exact⟨b+1,E,by go_num,Q.o⟩
 case measure=>simp[intOf];omega):p:=h
theorem w9 (h:p:=by
 have Zl:j.heap.size<=L.heap.size:=by have:=m.size;have:=k.size;omega
 have ZP:=ab (iD (m.trans (k.mono (by have:=m.size;omega))) Zl ZS aZ);have ZQ:=ab ZR;clear ZR ZS K t k ZE;exact xr):p:=h
theorem rQ (h:p:=by
 go_roundw
 case rel=>exact⟨b+1,_,E,by go_num,I,Z9,R.o,T⟩
 case measure=>simp[intOf];omega):p:=h
theorem mN (h:p:=by
 match b,a with
 | 0,a=>simp at a;subst a;simpa [Addr.add] using o):p:=h
theorem kj (h:p:=by
 exact⟨⟨_,I,w.below V⟩,V⟩):p:=h
theorem sd (h:p:=by
 refine⟨a.1,?_⟩;rcases a.2 with p | ⟨l,n,o,m,q,r,s⟩
 ·exact bj p
 ·exact aP ⟨l,n,o,m,q,by rw[d l (by rw[m];rfl)];exact r,s⟩):p:=h
theorem se (h:p:=by
 refine aK (v:=aL #[am 0 aj 0 0,aw ak]) (by simp[aJ,results50,go_sem,c,d]) I ⟨I,?_⟩;exact aD):p:=h
theorem v8 (h:p:=by
 go_wp2_with fail;refine(kL e _ _ 4 _ 100 _ ((ZK).on (az d _)) E (lD d _ _ 4 100 I cS) ar E E E).mono ?_;exact xW):p:=h
theorem sb (h:p:=by
 have ZK:b=g:=E;have ZL:=ab ZK;clear ZK;go_wp2;go_ret;exact⟨⟨_,I,by rw[<- ZL.o];rw[<- ZL.o] at n;exact n.mono E⟩,q⟩):p:=h
theorem pz (h:p:=by
 go_wp2_with (first | (go_at_call 113;refine(fM _ _ _ _).mono ?_;rintro c e ⟨rfl,rfl⟩));exact lW):p:=h
theorem rY (h:p:=by
 have ZH:b=e:=E;have Y7:=ab ZH;clear ZH;go_wp2;go_ret;exact⟨⟨_,I,by rw[s.o,p.o,<- Y7.o];exact u.mono E⟩,m⟩):p:=h
theorem sz (h:p:=by
 subst Q;go_wp2;go_roundw
 case rel=>exact⟨b+1,E,by go_num,by rw[w.o,o.o];exact r,l,X⟩
 case measure=>simp[intOf];omega):p:=h
theorem r8 (h:p:=by
 go_roundw
 case rel=>exact⟨b+1,E,by go_num,j,k,d⟩
 case measure=>simp[intOf];omega):p:=h
theorem vY (h:p:=by
 cases p:bZ c a;all_goals
  go_wp2_with (first | (go_at_call 66;refine(lk _ _ _ k E E).mono ?_;rintro f e ⟨rfl,rfl⟩));go_round
  case rel=>exact⟨a+1,E,by go_num,by rw[i.o,p];first | rfl | (rw[ME];rfl)⟩
  case measure=>simp[intOf];omega):p:=h
theorem r5 (h:p:=by
 go_wp2;go_roundw
 case rel=>exact⟨y,YY,d+1,D,Z9,E,by go_num,V,K,S,Y5,Zr,P⟩
 case measure=>simp[intOf];omega):p:=h
theorem n8 (h:p:=by
 have:=jY (λ w x=>w&&&x) n o b b b K N.o P.o b aZ p;omega):p:=h
theorem sn (h:p:=by
 go_roundw
 case rel=>exact⟨b+1,_,E,by go_num,I,by rw[q.o];exact Z8,Y.o⟩
 case measure=>simp[intOf];omega):p:=h
theorem xn (h:p:=by
 have r:U (fA a (e+1)=iF a i c):=by rw[U,Gm,u.o,v,N]
 clear N;go_wp2;go_roundw
 case rel=>exact⟨e+1,_,E,by go_num,I,by rw[r.o];exact p.mono P,B.trans (A.mono P)⟩
 case measure=>simp[intOf];omega):p:=h
theorem ye (h:p:=by
 have v:=ab (jW b a);go_wp2_with (go_at_call 113;refine(fM _ _ _ _).mono ?_;rintro m k ⟨rfl,rfl⟩);go_round
 case rel=>exact⟨a+1,E,by go_num,I,by rw[v.o];omega,by rw[v.o];omega⟩
 case measure=>simp[intOf];omega):p:=h
theorem w8 (h:p:=by
 have R:=ab O;clear O;have r:U (iF a i (c+1)=iL d k b):=by rw[U,Ad,t.o,G.o,R.o]
 go_wp2;go_roundw
 case rel=>exact⟨c+1,_,E,by go_num,I,by rw[r.o];exact q,n⟩
 case measure=>simp[intOf];omega):p:=h
theorem wO (h:p:=by
 clear f i;go_wp2_with (go_at_call 64;refine(qt _ g.1 g.2 _).mono ?_;rintro R S ⟨rfl,A⟩);go_roundw
 case rel=>exact⟨e.trans (A.mono e.size),a+1,E,by go_num,by rw[p.o]⟩
 case measure=>simp[intOf];omega):p:=h
theorem px (h:p:=by
 obtain rfl:b=c:=E;go_wp2;go_ret;exact⟨⟨_,I,G.mono E⟩,f⟩):p:=h
theorem v9 (h:p:=by
 have G:=ab t;go_wp2_with (first | (go_at_call 93;refine(kq _ _).mono ?_;rw[t];rintro i K ⟨rfl,rfl⟩) | (go_at_call 295;refine(Hv _ _ _ b _ e).mono ?_;rintro i K ⟨rfl,rfl⟩));go_ret;exact⟨by rw[G.o];rfl,I⟩):p:=h
theorem oa (h:p:=by
 have P:a=b:=E;subst P;go_wp2;go_ret;exact⟨I,e⟩):p:=h
theorem sj (h:p:=by
 intro b q;obtain⟨⟨U,X,f,V,W⟩,_⟩:=w.o b q;exact⟨U,X,f,cm V l.size,ag l W⟩):p:=h
theorem sq (h:p:=by
 go_wp2_with (first | (go_at_call 113;refine(fM _ _ _ _).mono ?_;rintro c e ⟨rfl,rfl⟩));exact mQ):p:=h
theorem pK (h:p:=by
 cases L:aI b g
 ·exact bj I
 ·exact aP ⟨I,λ n=>m ⟨L,n⟩⟩):p:=h
theorem vv (h:p:=by
 go_wp2;refine aK (v:=aL #[am 0 aj 0 0,aw ak]) (by simp[aJ,results203,go_sem,b,c,S,fr]) I ⟨?_,?_⟩
 ·rw[ZS.o];exact b1.no _ _
 ·exact aD):p:=h
theorem wN (h:p:=by
 have w:e.length=aH d:=by simp only[aI,b9,cR] at a;exact a.1.1.1.2
 have r:bK d=ae:=by simp only[aI,b9,cR] at a;exact a.1.1.1.1
 have:=b8 r;have:=b.len;omega):p:=h
theorem wv (h:p:=by
 refine et ?_;intro L k;have Z3:=ab (au n k);clear k;go_wp2;go_roundw
 case rel=>exact⟨a+1,E,by go_num,by rw[z.o,r.o,m.o],Z3.o⟩
 case measure=>simp[intOf];omega):p:=h
theorem yk (h:p:=by
 refine ko ?_;intro C p;have Yg:=ab (au G p);clear p;go_wp2;go_roundw
 case rel=>exact⟨q+1,E,by go_num,by rw[YP.o,Zl.o];rfl,Yg.o⟩
 case measure=>simp[intOf];omega):p:=h
theorem xR (h:p:=by
 go_wp2;refine cC ?_;repeat (first | go_big_quiet_step ((fail)) | quiet_step ((fail)))
 refine et ?_;intro L k;go_wp2;go_ret;exact⟨ct e.o.symm,au a k⟩):p:=h
theorem pG (h:p:=by
 have Z2:=ab j;clear j;go_wp2;go_ret;exact⟨gZ (by rw[<- Z2.o]),e⟩):p:=h
theorem lT (h:p:=by
 go_wp2;go_meet;exact⟨by rw[ZU.o],I⟩):p:=h
theorem pE (h:p:=by
 go_wp2;go_ret;exact⟨by rw[<- Zp.o];rfl,ZI⟩):p:=h
theorem kV (h:p:=by
 go_wp2;go_ret;exact⟨I,l⟩):p:=h
theorem xI (h:p:=by
 simp only[aI,b9,cR] at c;obtain⟨⟨⟨⟨e,g⟩,k⟩,f⟩,i⟩:=c;refine⟨e,g,by have:=b8 e;omega,λ a j=>bM.1 ((cp _ _).1 k a j),(bM.1 f).1,(bM.1 f).2,i⟩):p:=h
theorem xo (h:p:=by
 go_wp2;refine cC ?_;repeat (first | go_big_quiet_step ((fail)) | quiet_step ((fail)))
 refine et ?_;intro L k;have Q:=ab (au f k);exact vp):p:=h
theorem wq (h:p:=by
 go_wp2;refine cC ?_;repeat (first | go_big_quiet_step ((fail)) | quiet_step ((fail)))
 refine et ?_;intro L k;have Q:=ab (au a k);exact vp):p:=h
theorem r4 (h:p:=by
 refine⟨0,_,E,I,I,?_,az _ _⟩;exact fF a #[] 0 aZ (by unfold maxLen;omega) I):p:=h
theorem xV (h:p:=by
 by_cases ZQ:d=0
 ·exfalso;apply Zw;show es a a.length=0;rw[q.o,ZQ];rfl
 ·refine I0 a 4000000000000000000 E a.length (λ b i=>?_);have:=t.o b (by rw[<- q.o];exact i);omega):p:=h
theorem ym (h:p:=by
 rw[show b+1-a=(b-a)+1 from E,kO,List.getElem?_drop,show a+(b-a)=b from E,g];intro c;rcases List.mem_append.1 c with c | c
 ·exact k c
 ·simp at c;exact f c.symm):p:=h
theorem vJ (h:p:=by
 clear i;go_wp2;refine aK (v:=aL #[am 0 aj 0 0,aw ak]) (by simp[aJ,results133,go_sem,c,d]) I ⟨?_,?_⟩
 ·exact b1.no _ _
 ·exact bB):p:=h
theorem vy (h:p:=by
 clear i;go_wp2;refine aK (v:=aL #[am 0 aj 0 0,aw ak]) (by simp[aJ,results134,go_sem,c,d]) I ⟨?_,?_⟩
 ·exact b1.no _ _
 ·exact bB):p:=h
theorem wV (h:p:=by
 clear i;go_wp2;refine aK (v:=aL #[am 0 aj 0 0,aw ak]) (by simp[aJ,results230,go_sem,c,d]) I ⟨?_,?_⟩
 ·exact b1.no _ _
 ·exact bB):p:=h
theorem vz (h:p:=by
 clear i;go_wp2;refine aK (v:=aL #[am 0 aj 0 0,aw ak]) (by simp[aJ,results231,go_sem,c,d]) I ⟨?_,?_⟩
 ·exact b1.no _ _
 ·exact bB):p:=h
theorem xx (h:p:=by
 refine aK (v:=aL #[aa aj 0 0,aw ak]) (by simp[aJ,results163,go_sem]) I ⟨⟨_,by rw[l.o];rfl,by rw[l.o];exact av.nil _ _⟩,x.trans (k.mono P)⟩):p:=h
theorem vE (h:p:=by
 have i:=W b y x;have V:=(mem_ready.1 e).1;rw[z] at i;rcases hX a c.size with F | F
 ·simp[F] at V i;rw[V] at i;cases i
 ·simp[Array.getElem?_eq_none F] at i):p:=h
theorem DJ (h:p:=by
 go_wp2;go_roundw
 case rel=>exact⟨b+1,_,E,by go_num,I,by rw[ZS.o,B];exact r.below X,t.grown2 (iC X aj) (λ b f=>by cases f),Z4⟩
 case measure=>simp[intOf];omega):p:=h
theorem DI (h:p:=by
 have q:=j.trans a;go_wp2;go_ret;exact⟨_,I,⟨_,E,I⟩,p.mono E,q⟩):p:=h
theorem wG (h:p:=by
 refine dn ?_;refine dg ?_;intro Y4 Zj;have Zk:=au w Zj;go_wp2;go_roundw
 case rel=>exact⟨p+1,E,by go_num,by rw[ZS.o];go_num,Zk⟩
 case measure=>simp[intOf];omega):p:=h
theorem sw (h:p:=by
 rw[c];intro b;have:=be UInt8.toNat (iO b);simp[mL] at this;omega):p:=h
theorem rU (h:p:=by
 refine et ?_;intro L k;have V:=G.below k;rw[Z3.o];exact xl):p:=h
theorem sh (h:p:=by
 simp only[madeCells,Value.cells];apply List.ext_getElem
 ·simp
 ·intro D g d;simp[Nat.mod_one]):p:=h
theorem n9 (h:p:=by
 go_wp2;go_ret;exact⟨I,⟨l,G⟩,K⟩):p:=h
theorem wZ (h:p:=by
 go_wp2;go_round
 case rel=>exact⟨a+1,E,by go_num,by show (bq (λ a=> !(O c a==b)) a&& !(O c a==b))=ae;rw[i.o,q.o];rfl⟩
 case measure=>simp[intOf];omega):p:=h
theorem wy (h:p:=by
 go_wp2;refine aK (v:=bz 0 0 ak) (by simp[aJ,results168,go_sem,c,d]) I ⟨?_,?_⟩
 ·rw[G.o];rfl
 ·exact bB):p:=h
theorem xf (h:p:=by
 go_wp2;refine aK (v:=bz 0 0 ak) (by simp[aJ,results169,go_sem,c,d]) I ⟨?_,?_⟩
 ·rw[H.o];rfl
 ·exact bB):p:=h
theorem vX (h:p:=by
 refine aK (v:=aL #[am 0 aj 0 0,aw ak]) (by simp[aJ,results109,go_sem,c,d]) I ⟨?_,?_⟩
 ·exact b1.no _ _
 ·exact bB):p:=h
theorem vO (h:p:=by
 refine aK (v:=aL #[am 0 aj 0 0,aw ak]) (by simp[aJ,results131,go_sem,c,d]) I ⟨?_,?_⟩
 ·exact b1.no _ _
 ·exact bB):p:=h
theorem wX (h:p:=by
 refine aK (v:=aL #[am 0 aj 0 0,aw ak]) (by simp[aJ,results164,go_sem,c,d]) I ⟨?_,?_⟩
 ·exact b1.no _ _
 ·exact bB):p:=h
theorem x6 (h:p:=by
 refine p2 ?_;intro H L;clear j z b g f D;exact r2):p:=h
theorem xH (h:p:=by
 refine l6 ?_;intro e f c d;have Zu:=au ZK n;have Zt:=n.size;clear t n;exact vx):p:=h
theorem vG (h:p:=by
 refine p2 ?_;intro H L;clear j z b g B;exact r2):p:=h
theorem mP (h:p:=by
 have B:a=b:=E;subst B;exact h8):p:=h
theorem v6 (h:p:=by
 refine aK (v:=bz 0 0 ak) (by simp[aJ,results46,go_sem,c,d]) I ⟨?_,?_⟩
 ·rw[Z8.o];rfl
 ·exact bB):p:=h
theorem wA (h:p:=by
 refine aK (v:=aL #[am 0 aj 0 0,aw ak]) (by simp[aJ,results162,go_sem]) I ⟨?_,?_⟩
 ·exact b1.no _ _
 ·exact bB):p:=h
theorem vT (h:p:=by
 have Y:=ab H;clear H w c D;go_wp2;rw[Y.o];go_ret;exact⟨I,⟨l,V.below (az K _)⟩,(N.trans (bW.of_span G)).trans (bW.of_below (az K _))⟩):p:=h
theorem wL (h:p:=by
 have V:=eP (B:=b.heap.size+1) T E (M a.s) (aa c d f) (M a.t) (aa i g l) (M a.a) (aa m a.gg.length n);exact kj):p:=h
theorem xE (h:p:=by
 refine yP ?_;intro V;exact kj):p:=h
theorem wQ (h:p:=by
 go_wp2;refine aK (v:=bz 0 0 ak) (by simp[aJ,results234,go_sem,c,d]) I ⟨?_,?_⟩
 ·rfl
 ·exact aD):p:=h
theorem xS (h:p:=by
 have ZB:=(mh (λ p=>n&&&p) j m m 1000000 E L.o m aZ u).1;have ZA:=IV (T:= λ p=>n&&&p) R (λ ZS ZT=>(L.o ZS ZT).1) D;rw[G] at Z5;omega):p:=h
theorem r6 (h:p:=by
 obtain⟨p,g,j⟩:=Gf f (show b<2^a.length from E);rw[c p g] at j;cases j):p:=h
theorem xL (h:p:=by
 have g:=x.o;simp only[t,if_true] at g;obtain⟨ZS,o⟩:=g;have W:((b:F)==0)=ak:=by simp;omega
 have ZT:0<b:=E;clear ZS;go_wp2;exact lW):p:=h
theorem x8 (h:p:=by
 rw[y.o,a7 B];exact⟨_,I,((Z7.setBelow (by have:=j.size;simp;omega) _).setBelow (by have:=j.size;simp;omega) _).mono (by have:=j.size;omega)⟩):p:=h
theorem wi (h:p:=by
 go_enter func63,ntmps63;go_wp2_with (first | (go_at_call 93;refine(kq _ _).mono ?_;rintro d c ⟨rfl,rfl⟩));exact mO):p:=h
theorem xK (h:p:=by
 clear c;go_wp2_with fail;refine(dA _ _ _ _ _ _ (p.below d)).mono ?_;rw[o];rintro z ZX ⟨rfl,Z1⟩;go_wp2;go_ret;exact⟨I,au d Z1⟩):p:=h
theorem vU (h:p:=by
 go_wp2_with (first | (go_at_call 93;refine(kq _ _).mono ?_;rintro c e ⟨rfl,rfl⟩));all_goals go_ret
 all_goals exact⟨ct (by simp[*]),I⟩):p:=h
theorem wP (h:p:=by
 have Z2:e=a:=E;have R:U (dq a=fA a e):=by rw[U,Z2];rfl
 clear Z2;go_wp2;go_ret;exact⟨⟨_,I,by rw[R.o];exact o⟩,B⟩):p:=h
theorem sg (h:p:=by
 rw[e,<- u];exact fF b #[] 0 aZ (by unfold maxLen;omega) I):p:=h
theorem wT (h:p:=by
 go_wp2;rw[ZJ.o];go_roundw
 case rel=>exact⟨c+1,E,by go_num,by rw[Y0.o];exact Z5,ZI.o,ZH⟩
 case measure=>simp[intOf];omega):p:=h
theorem wb (h:p:=by
 exact⟨b,p,i,a,j,k,l,cm e c.size,λ x g=>(eR d).trans (m x g),λ x g v=>by rw[eR d,gK d];exact n x g v⟩):p:=h
theorem wK (h:p:=by
 conv=>lhs;rw[<- List.take_append_drop (b-a) (c.drop a)]
 rw[List.drop_drop,show a+(b-a)=b from E,mH e,f]):p:=h
theorem wI (h:p:=by
 by_cases e:b<0
 ·rw[lq b e];intro a;rcases List.mem_cons.1 a with a | a
  ·cases a
  ·exact c _ a
 ·rw[jp b E];exact c _):p:=h
theorem lV (h:p:=by
 go_wp2;go_ret;exact⟨I,u⟩):p:=h
theorem wR (h:p:=by
 intro b B;by_cases s:a=b
 ·subst s;have D:a<done.size:=by rw[i.size];omega
  simp[D]
 ·rw[kc ae s];exact c b E):p:=h
theorem wY (h:p:=by
 go_round
 case rel=>exact⟨c+1,E,by go_num,by rw[l.o,ZE,P];rfl,by rw[l.o,ZE,P];rfl⟩
 case measure=>simp[intOf];omega):p:=h
theorem wx (h:p:=by
 go_wp2;go_round
 case rel=>exact⟨b+1,c*10+(e-48).toNat,E,by go_num,by congr 1;omega,s⟩
 case measure=>simp[intOf];omega):p:=h
theorem xa (h:p:=by
 go_round
 case rel=>exact⟨a+1,E,by go_num,by rw[w.o,N.o],by rw[w.o];exact P.o⟩
 case measure=>simp[intOf];omega):p:=h
theorem xq (h:p:=by
 go_roundw
 case rel=>exact⟨b+1,x,ZT,E,by go_num,I,by rw[Z9.o];exact ZR,ZU.o,ZS⟩
 case measure=>simp[intOf];omega):p:=h
theorem vu (h:p:=by
 have Z9:U (Lib.decFrom 0 a.data.toList=aj):=tl _ _ b _ p.o (by have:=o.o;unfold Lib.digitVal;rw[aF E]);exact wg):p:=h
theorem vW (h:p:=by
 have Z9:U (Lib.decFrom 0 a.data.toList=aj):=tl _ _ b _ p.o (by have:=o.o;unfold Lib.digitVal;rw[aF E]);exact wg):p:=h
theorem wl (h:p:=by
 go_wp2;go_roundw
 case rel=>exact⟨b+1,_,E,by go_num,I,by rw[q.o];exact r,C⟩
 case measure=>simp[intOf];omega):p:=h
theorem wj (h:p:=by
 have ZV:=ku (ai J) e (by rw[bs];omega);rw[cE,ZW] at ZV;exact ZV.mono λ ZX ZD ZY=>⟨ZY.1,by rw[<- ZY.2];exact Below.refl _ _⟩):p:=h
theorem vl (h:p:=by
 obtain⟨l,X⟩:=y.o a b g j;rw[z] at l;rw[L] at X;injection l with l
 injection X with X
 exact⟨l.symm,X.symm⟩):p:=h
theorem vP (h:p:=by
 go_enter func138,ntmps138;go_wp2_with fail;refine i.o.mono ?_;rintro c y ⟨rfl,p⟩;go_wp2;go_ret;exact⟨I,p⟩):p:=h
theorem pD (h:p:=by
 go_wp2;go_meet;exact⟨by first | rfl | simp,rfl⟩):p:=h
theorem v7 (h:p:=by
 intro L U R S T Q;refine u L U R S ?_ Q;by_cases K:a=L
 ·rw[<- K];exact v
 ·rwa [kc ae K] at T):p:=h
theorem r7 (h:p:=by
 have D:b=g:=E;subst D;go_wp2;go_ret;exact⟨_,I,d,c⟩):p:=h
theorem wn (h:p:=by
 rw[U,show aN #[102,117,108,108,10]=ai [102,117,108,108,10] from I,dd,<- H.o,Hz n e i l T.o ZL.o P]):p:=h
theorem xk (h:p:=by
 have K:¬(100:F)<=(e:F):=E;have Zi:(40000:F)<((ai i).size:J):=by rw[bs];omega
 clear P Zj;exact pE):p:=h
theorem xN (h:p:=by
 obtain rfl:e=s:=E;have Zp:U (ai i=ai u):=by rw[U,<- H.o,IX n q e e i l (by have:=Zo.o;omega)]
 exact pE):p:=h
theorem vV (h:p:=by
 go_wp2;go_round
 case rel=>exact⟨a+1,E,by go_num,by rw[i.o,j,k.o];rfl⟩
 case measure=>simp[intOf];omega):p:=h
theorem xY (h:p:=by
 go_wp2;go_roundw
 case rel=>exact⟨b+1,E,by go_num,by rw[x.o];exact u,o⟩
 case measure=>simp[intOf];omega):p:=h
theorem pI (h:p:=by
 go_wp2;go_meet;exact⟨by rw[P.o];rfl,I⟩):p:=h
theorem w3 (h:p:=by
 go_roundw
 case rel=>exact⟨b+1,E,by go_num,by rw[R.o];exact YL,YM.o⟩
 case measure=>simp[intOf];omega):p:=h
theorem xz (h:p:=by
 rw[<- Z7];exact(aA.set ⟨bL _,gB _⟩).trans (aA.set ⟨bL _,gB _⟩)):p:=h
theorem x4 (h:p:=by
 refine Lib.decFrom_take _ b 0 c _ _ j.o p.o ?_;have:=o.o;unfold Lib.digitVal;rw[a7 E];congr 1;omega):p:=h
theorem sv (h:p:=by
 rintro f Z7 ⟨rfl,Y⟩;go_wp2;go_ret;exact⟨I,au l Y⟩):p:=h
theorem yd (h:p:=by
 unfold joinedFacts;repeat' (with_reducible refine Bool.and_eq_true_iff.2 ⟨?_,?_⟩)
 all_goals (as_aux_lemma=>kernel_rfl)):p:=h
theorem xr (h:p:=by
 go_wp2;rw[ZQ.o];go_roundw
 case rel=>exact⟨b+1,E,by go_num,ZY,ZP.o⟩
 case measure=>simp[intOf];omega):p:=h
theorem yh (h:p:=by
 refine pY ?_;intro T;clear C G V f y k;exact rQ):p:=h
theorem xZ (h:p:=by
 go_wp2;go_round
 case rel=>exact⟨_,_,_,⟨a+1,E,by go_num⟩,I,I,I⟩
 case measure=>simp[intOf];omega):p:=h
theorem v5 (h:p:=by
 rcases f.2 with ⟨rfl,r⟩ | ⟨a,i,q,rfl,j,k,u,s,v,w⟩
 ·omega
 ·exact⟨a,i,I,j,lt_of_block k⟩):p:=h
theorem w7 (h:p:=by
 go_wp2_with (first | (go_at_call 79;refine(oI b _ E).mono ?_;rw[G];rintro z Z2 ⟨rfl,rfl⟩));exact r8):p:=h
theorem wU (h:p:=by
 go_roundw
 case rel=>exact⟨aD,a+1,E,by go_num,by rw[q.o]⟩
 case measure=>simp[intOf];omega):p:=h
theorem pC (h:p:=by
 go_wp2;go_ret;exact⟨by rw[j.o];rfl,e⟩):p:=h
theorem xt (h:p:=by
 go_wp2;go_round
 case rel=>exact⟨a+1,E,by go_num,by rw[i.o,j];rfl⟩
 case measure=>simp[intOf];omega):p:=h
theorem wE (h:p:=by
 obtain⟨X,R⟩:=l.o.resolve_left E;clear l;go_wp2;go_ret;exact⟨_,_,_,b,I,e,R,g⟩):p:=h
theorem xG (h:p:=by
 rw[BitVec.toNat_and,po,po,pl E,pl E]):p:=h
theorem yi (h:p:=by
 go_roundw
 case rel=>exact⟨e,a+1,E,by go_num,by rw[d.o];rfl⟩
 case measure=>simp[intOf];omega):p:=h
theorem sr (h:p:=by
 refine ic ?_;intro l;clear i;exact kV):p:=h
theorem vA (h:p:=by
 split at a
 ·rename_i f;have e:=Classical.choose_spec f;injection a with a
  rw[a] at e;exact e
 ·cases a):p:=h
theorem wz (h:p:=by
 exact⟨_,_,_,D,Below.setCell Zs (show e<=e from bL _) _,⟨by rw[li],λ v Zd=>lj Zd⟩⟩):p:=h
theorem sm (h:p:=by
 refine⟨⟨_,I,Z4.below ?_⟩,?_⟩;all_goals exact aD):p:=h
theorem py (h:p:=by
 have Y:=cG.1 Y0;have ZF:=cG.1 A;omega):p:=h
theorem mO (h:p:=by
 go_ret;exact⟨I,az a _⟩):p:=h
theorem xX (h:p:=by
 exact⟨⟨_,I,Y.leave (ie E E _ _ _ _ _ _)⟩,eP X E _ _ _ _ _ _⟩):p:=h
theorem wt (h:p:=by
 go_round
 case rel=>exact⟨a+1,E,by go_num,by rw[u.o]⟩
 case measure=>simp[intOf];omega):p:=h
theorem wC (h:p:=by
 go_wp2_with (go_at_call 113;refine(fM _ _ _ _).mono ?_;rw[l];rintro i K ⟨rfl,rfl⟩);exact lW):p:=h
theorem yc (h:p:=by
 rw[show a[b]=aO a b by unfold aO;rw[jH,fV n];rfl]):p:=h
theorem O1 (h:p:=by
 rcases hgn with a | a
 ·have b:=a;injection b with b;omega
 ·have:=hsr.at.2.2.2.1;simp at a;omega):p:=h
theorem lU (h:p:=by
 clear p j k;exact vq):p:=h
theorem yl (h:p:=by
 rw[nW,List.mem_singleton] at a;rcases a with a | rfl
 ·have:=d b a;omega
 ·omega):p:=h
theorem ya (h:p:=by
 induction b with
 | zero=>rfl
 | succ b g=>rw[gV,gV,g λ a i=>d a E,d b E]):p:=h
theorem xT (h:p:=by
 go_wp2_with fail;refine(L _ (V.below aD)).mono ?_;rintro r T ⟨m,ZC,rfl,K⟩;exact wJ):p:=h
theorem yf (h:p:=by
 rw[List.set_cons_succ,List.filter_cons,List.filter_cons];split
 ·simp at d ⊢;omega
 ·exact d):p:=h
theorem vR (h:p:=by
 go_round
 case rel=>exact⟨a+1,E,by go_num,d.o⟩
 case measure=>simp[intOf];omega):p:=h
theorem vo (h:p:=by
 obtain⟨k,l,f⟩:=dZ c;clear c;go_wp2;go_ret;exact⟨ct (by simp[ci,a]),f⟩):p:=h
theorem xQ (h:p:=by
 refine m8 ?_;intro G K;clear j b g;exact n9):p:=h
theorem we (h:p:=by
 cases o:bH k m
 ·exact bC (q.symm.trans (by unfold bG;rw[o];rfl)) ZC.o
 ·rfl):p:=h
theorem xM (h:p:=by
 have ZS:U (gu (a:F) c k (b+1)=l):=by rw[U,Z2.o,D.o,L.o,ZW];rfl
 exact DJ):p:=h
theorem ww (h:p:=by
 refine e5 ?_;intro l;go_wp2;go_ret;exact⟨ct (by simp[cJ,b]),l⟩):p:=h
theorem yn (h:p:=by
 refine qR v p o.toNat w (λ Zn z=>?_) w aZ;have:=Z6 Zn (by rw[Z2.o];exact z);omega):p:=h
theorem xh (h:p:=by
 rw[jn (p:= λ a=> !(O c a==b)) (by rw[g.o];exact e) (by simp at f ⊢;omega)];rfl):p:=h
theorem rX (h:p:=by
 exact⟨⟨_,by rw[G.o],w.below V⟩,V⟩):p:=h
theorem xU (h:p:=by
 have H:a=b:=E;subst H;go_wp2;go_ret;exact⟨⟨_,I,by rw[k.o];simp⟩,g⟩):p:=h
theorem xg (h:p:=by
 intro b B;have:=k (b+1) (by simp;omega);simpa [Nat.add_assoc,Nat.add_comm 1 b] using this):p:=h
theorem wk (h:p:=by
 rcases hX b a with m | m
 ·exact f.o b m
 ·obtain rfl:b=a:=E;exact c):p:=h
theorem wF (h:p:=by
 cases Y:bK o
 ·exact bj I
 ·rw[Y] at k;exact aP ⟨I,by simpa using k⟩):p:=h
theorem pA (h:p:=by
 rw[cK _ _ (by simp[d])];simp[d]):p:=h
theorem mQ (h:p:=by
 go_ret;exact⟨I,I⟩):p:=h
theorem sa (h:p:=by
 go_wp2;go_ret;exact⟨by rw[d.o];rfl,I⟩):p:=h
theorem rT (h:p:=by
 go_wp2;go_ret;exact⟨by rw[s.o];rfl,l⟩):p:=h
theorem xu (h:p:=by
 clear k;go_wp2;go_ret;exact⟨⟨_,I,by rw[s.o];exact av.nil _ _⟩,w⟩):p:=h
theorem rZ (h:p:=by
 go_enter func284,ntmps284;exact jP):p:=h
theorem wM (h:p:=by
 have A:=(List.getElem?_eq_some_iff.1 o).1;rw[ec,b] at A;exact A):p:=h
theorem wS (h:p:=by
 have:=nI 32 b.data.toList _ (List.mem_of_getElem? r);rw[eE,eE] at this;omega):p:=h
theorem xm (h:p:=by
 rcases(show b=0 \/ b=1 \/ b=2 \/ b=3 from E) with rfl | rfl | rfl | rfl<;>decide):p:=h
theorem vH (h:p:=by
 rcases g with g | ⟨b,s,p⟩
 ·exact bj g
 ·exact aP ⟨b,E,p⟩):p:=h
theorem r2 (h:p:=by
 go_wp2;go_ret;exact⟨I,⟨l,H⟩,L⟩):p:=h
theorem sc (h:p:=by
 rw[dm,jG];omega):p:=h
theorem v4 (h:p:=by
 unfold eV at a;split at a
 ·cases a
 ·next e=>simp only[not_or] at e;omega):p:=h
theorem rR (h:p:=by
 go_ret;exact⟨ct (by simp[gY,d]),c⟩):p:=h
theorem vk (h:p:=by
 have n:=O.o;have w:=v.o;rw[jF (by simp;omega),n]):p:=h
theorem w5 (h:p:=by
 clear v o;go_wp2;go_ret;exact⟨⟨_,I,q.mono E⟩,r⟩):p:=h
theorem yg (h:p:=by
 by_cases f:g=a
 ·subst f;rw[m.o,e,l];rfl
 ·exact C.o g E):p:=h
theorem wd (h:p:=by
 have D:ap t r:=bJ e;go_wp2;go_ret;exact⟨I,D⟩):p:=h
theorem xA (h:p:=by
 go_wp2;go_ret;exact⟨ct (by rw[l.o,e,s,v];rfl),aD⟩):p:=h
theorem xd (h:p:=by
 by_cases f:g=a
 ·subst f;rw[m.o,e];rfl
 ·exact C.o g E):p:=h
theorem wB (h:p:=by
 intro i X V W;have:=G i X V;rw[W,getD_both s] at this;cases this):p:=h
theorem jf (h:p:=by
 split;exact ql _ _;exact mb):p:=h
theorem rS (h:p:=by
 rintro f l ⟨_,rfl,⟨T,Z3,rfl⟩,p,a⟩;refine y7 ?_;intro a w;exact DI):p:=h
theorem xW (h:p:=by
 rintro f l ⟨_,rfl,⟨T,Z3,rfl⟩,i,a⟩;refine y7 ?_;intro a w;exact DH):p:=h
theorem pv (h:p:=by
 rintro q ZU ⟨rfl,k⟩;exact DG):p:=h
theorem xJ (h:p:=by
 rw[c];show i7 a=aj;unfold i7;rw[aF];intro e;unfold bi at b;simp at b;omega):p:=h
theorem xO (h:p:=by
 rw[c];show i7 a=Z a;unfold i7;rw[a7];unfold bi at b;simp at b;omega):p:=h
theorem x5 (h:p:=by
 refine⟨⟨?_,?_,?_,?_,?_,?_⟩,⟨?_,?_,?_,?_,?_,?_⟩,?_⟩;all_goals simp):p:=h
theorem pM (h:p:=by
 rw[C,A,X,x.len,z.len];rfl):p:=h
theorem ia (k:q) (h:O0 q->p:=by
 intro VC;refine gJ (λ e:af=>aA (b.heap.size+1) (b.heap.size+1+1) A e) (λ _=>True) 99 ah ?_;change de _ _ _ _ _ _ _ _ _ _ (dH A);have C:=bI A;have p:aA (b.heap.size+1) (b.heap.size+1+1) A (dH A):=aA.of_below C;refine eq 0 (v:=?_) I p (λ e S=>?_) ?_;rotate_left
 ·obtain⟨L,N,O,P,Q,R⟩:=eJ q S;go_simp;first | done | rfl
 simp only[aT];refine eq 1 (v:=?_) I p (λ e S=>?_) ?_;rotate_left
 ·obtain⟨L,N,O,P,Q,R⟩:=eJ q S;go_simp;first | done | rfl
 simp only[aT];revert p;revert C;exact VC.g):p:=h ⟨k⟩
theorem iX (k:q) (h:O0 q->p:=by
 intro VC;have ZZ:=b8 (cv A).1;have Z1:1<=b:=by have:=(cv A).2.1;have:=Q.o;omega
 have K:b<=16:=by have:=Q.o;omega
 have N:U (∀p,p<b->0<=O n p /\ O n p<=1000000):= λ p Z0=>L p (by rw[Q.o];exact Z0)
 have P:U (∀p,p<b->0<=O o p /\ O o p<=1000000):= λ p Z0=>R p (by rw[Z9.o];exact Z0)
 revert P;revert N;revert K;revert Z1;revert ZZ;exact VC.g):p:=h ⟨k⟩
theorem l0 (k:q) (h:O0 q->p:=by
 intro VC;obtain⟨G,K,H,Q,o,N⟩:=z.m;obtain⟨V,X,W,S,A,O⟩:=z.n;replace o:av d 0 (aa G K H) a.xs:=o;replace A:av d 0 (aa V X W) a.ys:=A;have P:=z.c0;have R:=z.c2;have T:=z.c4;have L:U (∀(Y:aG) (Z8 Z9:J) C,ap d C->av C d.heap.size (aa Y Z8 Z9) j.parts->aY prog 121 #[br p,am j.size Y Z8 Z9,aw j.ok] C λ f e=>f=aV (aE (ai (bf a j).1)) /\ (∃ZX,eY e p s (bf a j).2 ZX) /\ bW p s C e):= λ Y Z8 Z9 C B l=>zF b r Z7 E B l
 revert L;revert T;revert R;revert P;revert A;revert o;revert O;revert S;revert N;revert Q;revert G K H V X W;exact VC.g):p:=h ⟨k⟩
theorem iW (k:q) (h:O0 q->p:=by
 intro VC;rw[B];rintro V u ⟨rfl,i⟩;obtain⟨c,d,e,f⟩:=cj (a.heap.size+1+1) i ar;have D:=aS i a.heap.size 0 (M g);have G:=aS i a.heap.size 1 (aa s b y);have C:=aS i (a.heap.size+1) 0 (M q);have H:=aS i (a.heap.size+1) 1 (aa t b z);have l:ap a u:=dz i;revert l;revert H;revert C;revert G;revert D;revert f;revert e;revert d;revert c;revert i;revert u;exact VC.g):p:=h ⟨k⟩
theorem dP (k:q) (h:O0 q->p:=by
 intro VC;rintro n j ⟨rfl,i⟩;obtain⟨c,d,e,f⟩:=cj (a.heap.size+1) i ar;have l:ap a j:=dz i;revert l;revert f;revert e;revert d;revert c;revert i;revert j;exact VC.g):p:=h ⟨k⟩
theorem p4 (k:q) (h:O0 q->p:=by
 intro VC;refine bX (i:=0) (v:=?_) I ah ah ah (λ _ _ _ a=>a) aX (Or.inl ⟨a6,λ b f=>?_⟩) d (λ _=>c) ?_;rotate_left
 ·go_simp;first | done | rfl
 simp only[aT];refine iZ (i:=1) (v:=?_) I ah ah ah (λ _ _ _ a=>a) aX ah ah (Or.inl ⟨a6,λ b f=>?_⟩) ⟨d,c⟩ ?_;rotate_left
 ·obtain⟨B,o,Xo⟩:=f;go_simp;first | done | rfl
 simp only[aT];refine bX (i:=2) (v:=?_) I ah ah ah (λ _ _ _ a=>a) aX (Or.inl ⟨a6,λ b f=>?_⟩) d (λ _=>c) ?_;rotate_left
 ·go_simp;first | done | rfl
 simp only[aT];exact VC.g):p:=h ⟨k⟩
theorem dY (k:q) (h:O0 q->p:=by
 intro VC;simp only[List.take_succ_cons,List.take_zero,List.drop_succ_cons,List.drop_zero];exact VC.g):p:=h ⟨k⟩
theorem ov (k:q) (h:O0 q->p:=by
 intro VC;refine eq 2 (v:=?_) I p (λ e S=>?_) ?_;rotate_left
 ·obtain⟨L,N,O,P,Q,R⟩:=eJ q S;go_simp;first | done | rfl
 simp only[aT];refine eq 3 (v:=?_) I p (λ e S=>?_) ?_;rotate_left
 ·obtain⟨L,N,O,P,Q,R⟩:=eJ q S;go_simp;first | done | rfl
 simp only[aT];refine eq 4 (v:=?_) I p (λ e S=>?_) ?_;rotate_left
 ·obtain⟨L,N,O,P,Q,R⟩:=eJ q S;go_simp;first | done | rfl
 simp only[aT];exact VC.g):p:=h ⟨k⟩
theorem cc (k:q) (h:O0 q->p:=by
 intro VC;intro z b Z6 x Zo;have w:=Zo;obtain⟨c,d,f,i,g,l,m,n,rfl,t,s,u⟩:=Zo;rw[o.o];revert u;revert s;revert t;revert w;revert x;revert z b c d f i g l m n;exact VC.g):p:=h ⟨k⟩
theorem c7 (k:q) (h:O0 q->p:=by
 intro VC;go_simp;refine j _ _ (p.trans (zu _ _ _ _ _ _)) ?_;exact VC.g):p:=h ⟨k⟩
theorem cC (k:q) (h:O0 q->p:=by
 intro VC;refine gj ah ah ?_;exact VC.g):p:=h ⟨k⟩
theorem bk (k:q) (h:O0 q->p:=by
 intro VC;have G:U (∀e,aY prog 104 #[aE (ai YY)] e λ H ZS=>(∃Z0 Y0 Y8,H=aV (aL #[aa Z0 Y0 Y8,aw ae]) /\ av ZS e.heap.size (aa Z0 Y0 Y8) Y9) /\ ap e ZS):=kx YX YW;revert G;exact VC.g):p:=h ⟨k⟩
theorem kk (k:q) (h:O0 q->p:=by
 intro VC;have n:U (∀d,dp d->aY prog 163 #[aE (ai i)] d λ f e=>(∃F,f=aV (aL #[F,aw ae]) /\ av e d.heap.size F c) /\ ap d e):= λ d y=>DN Zw t d y
 revert n;exact VC.g):p:=h ⟨k⟩
theorem zh (k:q) (h:O0 q->p:=by
 intro VC;refine gJ (λ e:af=>aA (b.heap.size+1) (b.heap.size+1+1) C e) (λ _=>True) 99 ah ?_;change de _ _ _ _ _ _ _ _ _ _ (dH C);have L:=bI C;have p:aA (b.heap.size+1) (b.heap.size+1+1) C (dH C):=aA.of_below L;refine eq 0 (v:=?_) I p (λ e Q=>?_) ?_;rotate_left
 ·obtain⟨Z8,ZX,ZW,ZV,ZU,ZT⟩:=eJ R Q;go_simp;first | done | rfl | (simp[go_sem,G];done) | (simp[Builtin.len_,go_sem,G];done)
 simp only[aT];refine eq 1 (v:=?_) I p (λ e Q=>?_) ?_;rotate_left
 ·obtain⟨Z8,ZX,ZW,ZV,ZU,ZT⟩:=eJ R Q;go_simp;first | done | rfl | (simp[go_sem,G];done) | (simp[Builtin.len_,go_sem,G];done)
 simp only[aT];refine eq 2 (v:=?_) I p (λ e Q=>?_) ?_;rotate_left
 ·obtain⟨Z8,ZX,ZW,ZV,ZU,ZT⟩:=eJ R Q;go_simp;first | done | rfl | (simp[go_sem,G];done) | (simp[Builtin.len_,go_sem,G];done)
 simp only[aT];refine eq 3 (v:=?_) I p (λ e Q=>?_) ?_;rotate_left
 ·obtain⟨Z8,ZX,ZW,ZV,ZU,ZT⟩:=eJ R Q;go_simp;first | done | rfl | (simp[go_sem,G];done) | (simp[Builtin.len_,go_sem,G];done)
 simp only[aT];refine eq 4 (v:=?_) I p (λ e Q=>?_) ?_;rotate_left
 ·obtain⟨Z8,ZX,ZW,ZV,ZU,ZT⟩:=eJ R Q;go_simp;first | done | rfl | (simp[go_sem,G];done) | (simp[Builtin.len_,go_sem,G];done)
 simp only[aT];refine bR 5 I (λ k j=>?_);revert j;revert p;revert L;revert k;exact VC.g):p:=h ⟨k⟩
theorem qa (k:q) (h:O0 q->p:=by
 intro VC;refine bX (i:=7) (v:=?_) I ah ah ah (λ _ _ _ a=>a) aX (Or.inl ⟨a6,λ b f=>?_⟩) d (λ _=>c) ?_;rotate_left
 ·go_simp;first | done | rfl
 simp only[aT];refine bX (i:=8) (v:=?_) I ah ah ah (λ _ _ _ a=>a) aX (Or.inl ⟨a6,λ b f=>?_⟩) d (λ _=>c) ?_;rotate_left
 ·go_simp;first | done | rfl
 simp only[aT];exact VC.g):p:=h ⟨k⟩
theorem fg (k:q) (h:O0 q->p:=by
 intro VC;have s:=aS i a.heap.size 0 (M g);have t:=aS i a.heap.size 1 (aa q m r);revert t;revert s;exact VC.g):p:=h ⟨k⟩
theorem hF (k:q) (h:O0 q->p:=by
 intro VC;replace e:=aB v c e;replace f:=aB v d f;replace c:=ag v c;replace d:=ag v d;have A:=au l v;revert A;revert d;revert c;revert f;revert e;exact VC.g):p:=h ⟨k⟩
theorem sC (k:q) (h:O0 q->p:=by
 intro VC;refine gJ (λ O:af=>aA (b.heap.size+1) (b.heap.size+1+1) N O) (λ _=>True) 99 ah ?_;change de _ _ _ _ _ _ _ _ _ _ (dH N);have Z4:=bI N;have p:aA (b.heap.size+1) (b.heap.size+1+1) N (dH N):=aA.of_below Z4;refine eq 0 (v:=?_) I p (λ O ZI=>?_) ?_;rotate_left
 ·obtain⟨v,y,A,C,G,H⟩:=eJ Z8 ZI;go_simp;first | done | rfl
 simp only[aT];refine eq 1 (v:=?_) I p (λ O ZI=>?_) ?_;rotate_left
 ·obtain⟨v,y,A,C,G,H⟩:=eJ Z8 ZI;go_simp;first | done | rfl
 simp only[aT];refine bR 2 I (λ k j=>?_);go_simp;refine(ZP.o _).mono ?_;rintro P ZQ ⟨rfl,ZB⟩;have e:=au Z4 ZB;go_simp;have Y:aA (b.heap.size+1) (b.heap.size+1+1) N ZQ:=aA.of_below e;refine j _ _ Y ?_;clear j k p ZB;have p:=Y;revert p;revert Y;revert e;revert Z4;revert ZQ;exact VC.g):p:=h ⟨k⟩
theorem y9 (k:q) (h:O0 q->p:=by
 intro VC;refine bX (i:=0) (v:=?_) I ah ah ah (λ _ _ _ a=>a) aX (Or.inl ⟨a6,λ b f=>?_⟩) d (λ _=>c) ?_;rotate_left
 ·go_simp;first | done | rfl
 simp only[aT];refine bX (i:=1) (v:=?_) I ah ah ah (λ _ _ _ a=>a) aX (Or.inl ⟨a6,λ b f=>?_⟩) d (λ _=>c) ?_;rotate_left
 ·go_simp;first | done | rfl
 simp only[aT];refine bX (i:=2) (v:=?_) I ah ah ah (λ _ _ _ a=>a) aX (Or.inl ⟨a6,λ b f=>?_⟩) d (λ _=>c) ?_;rotate_left
 ·go_simp;first | done | rfl
 simp only[aT];refine bX (i:=3) (v:=?_) I ah ah ah (λ _ _ _ a=>a) aX (Or.inl ⟨a6,λ b f=>?_⟩) d (λ _=>c) ?_;rotate_left
 ·go_simp;first | done | rfl
 simp only[aT];refine iZ (i:=4) (v:=?_) I ah ah ah (λ _ _ _ a=>a) aX ah ah (Or.inl ⟨a6,λ b f=>?_⟩) ⟨d,c⟩ ?_;rotate_left
 ·obtain⟨VE,s,VD⟩:=f;go_simp;first | done | rfl
 simp only[aT];refine bX (i:=5) (v:=?_) I ah ah ah (λ _ _ _ a=>a) aX (Or.inl ⟨a6,λ b f=>?_⟩) d (λ _=>c) ?_;rotate_left
 ·go_simp;first | done | rfl
 simp only[aT];exact VC.g):p:=h ⟨k⟩
theorem km (k:q) (h:O0 q->p:=by
 intro VC;refine(kv q 32 _ _ _ u.o E _ (k.below s)).mono ?_;rw[o.o];rintro n C ⟨rfl,i⟩;have f:=s.trans (i.mono v);have b:=d.below i;have g:=bW.of_below (D:=a) (B:=m) i;revert g;revert b;revert f;revert i;revert C;exact VC.g):p:=h ⟨k⟩
theorem s6 (k:q) (h:O0 q->p:=by
 intro VC;change de _ _ _ _ _ _ _ _ _ _ (dH C);have L:=bI C;have p:aA (b.heap.size+1) (b.heap.size+1+1) C (dH C):=aA.of_below L;refine eq 0 (v:=?_) I p (λ e Z3=>?_) ?_;rotate_left
 ·obtain⟨N,O,P,Q,R,S⟩:=eJ Z4 Z3;go_simp;first | done | rfl
 simp only[aT];refine eq 1 (v:=?_) I p (λ e Z3=>?_) ?_;rotate_left
 ·obtain⟨N,O,P,Q,R,S⟩:=eJ Z4 Z3;go_simp;first | done | rfl
 simp only[aT];refine eq 2 (v:=?_) I p (λ e Z3=>?_) ?_;rotate_left
 ·obtain⟨N,O,P,Q,R,S⟩:=eJ Z4 Z3;go_simp;first | done | rfl
 simp only[aT];revert p;revert L;exact VC.g):p:=h ⟨k⟩
theorem iy (k:q) (h:O0 q->p:=by
 intro VC;have f:ap a wr:=l.trans (y.mono E);have w:=dL y E s;have z:=dL y E t;revert z;revert w;revert f;exact VC.g):p:=h ⟨k⟩
theorem lZ (k:q) (h:O0 q->p:=by
 intro VC;have r:U (∀c,dp c->aC 57 #[ba #[M e.num,M e.den],aw e.ok] c (aE (ai (cM e)))):= λ c G=>zv e c G.pow
 revert r;exact VC.g):p:=h ⟨k⟩
theorem jh (k:q) (h:O0 q->p:=by
 intro VC;have B:ap b A:=by rw[<- D];exact aD
 have q:=jU (w:=b) D;have K:an A c d a.xs:=(t.row.below B).view;revert K;revert q;revert B;exact VC.g):p:=h ⟨k⟩
theorem s8 (k:q) (h:O0 q->p:=by
 intro VC;have Z9:ap y Z8:=by rw[<- H];exact aD
 have B: Z8.cell? (ad (y.heap.size+1) 0)=Z (M 0):=by rw[<- H];simp
 have C: Z8.cell? (ad (y.heap.size+1) 1)=Z (aa aj 0 0):=by rw[<- H];simp
 have D: Z8.frozen? (ad (y.heap.size+1) 0)=ak:=by rw[<- H];simp
 have G: Z8.frozen? (ad (y.heap.size+1) 1)=ak:=by rw[<- H];simp
 have ZV:y.heap.size+1<Z8.heap.size:=by rw[<- H];simp
 have ZN:b.heap.size+1<y.heap.size+1:=E;obtain⟨ZQ,ZU⟩:∃ZQ,y.heap.size+1=ZQ:=⟨_,I⟩;rw[ZU] at B C D G ZV ZN ⊢;have ZW:=v.below Z9;revert ZW;revert ZN;revert ZV;revert G;revert D;revert C;revert B;revert ZU;revert Z9;revert ZQ;exact VC.g):p:=h ⟨k⟩
theorem sL (k:q) (h:O0 q->p:=by
 intro VC;have Q:U ((∀a b,bH a b=ae->bG a b=i->aV (bz k m ae)=aV (bz a b ae)) /\ ((∀a b,bH a b=ae->bG a b≠i)->aV (bz k m ae)=aV (bz 0 0 ak))):=⟨λ a b g j=>by obtain⟨rfl,rfl⟩:=u.o a b g j;rfl,λ o=>bC q (o _ _ w)⟩;have Z4:((ai i).toList==(ai i).toList)=ae:=beq_self_eq_true _;revert Z4;revert Q;exact VC.g):p:=h ⟨k⟩
theorem kZ (k:q) (h:O0 q->p:=by
 intro VC;refine eq 2 (v:=?_) I p (λ e S=>?_) ?_;rotate_left
 ·obtain⟨L,N,O,P,Q,R⟩:=eJ q S;go_simp;first | done | rfl
 simp only[aT];exact VC.g):p:=h ⟨k⟩
theorem jR (k:q) (h:O0 q->p:=by
 intro VC;refine iU ?_;intro Z8 ZE;have D:ap b Z8:=by rw[<- ZE];exact aD
 have B:=jU (w:=b) ZE;clear ZE;refine(G.o _).mono ?_;revert B;revert D;revert Z8;exact VC.g):p:=h ⟨k⟩
theorem h9 (k:q) (h:O0 q->p:=by
 intro VC;replace e:=aB p c e;replace f:=aB p d f;replace c:=ag p c;replace d:=ag p d;revert d;revert c;revert f;revert e;exact VC.g):p:=h ⟨k⟩
theorem iV (k:q) (h:O0 q->p:=by
 intro VC;rw[B];rintro V u ⟨rfl,i⟩;obtain⟨c,d,e,f⟩:=cj (a.heap.size+1+1) i ar;have l:ap a u:=dz i;clear i;revert l;revert f;revert e;revert d;revert c;revert u;exact VC.g):p:=h ⟨k⟩
theorem hj (k:q) (h:O0 q->p:=by
 intro VC;refine(qh _ _ _ _ _ _ _ _ _ _ _ (Z8.below X) (Z6.below X)).mono ?_;exact VC.g):p:=h ⟨k⟩
theorem sH (k:q) (h:O0 q->p:=by
 intro VC;refine bX (i:=15) (v:=?_) I ah ah ah (λ _ _ _ a=>a) aX (Or.inl ⟨a6,λ b f=>?_⟩) d (λ _=>c) ?_;rotate_left
 ·go_simp;first | done | rfl
 simp only[aT];refine bX (i:=16) (v:=?_) I ah ah ah (λ _ _ _ a=>a) aX (Or.inl ⟨a6,λ b f=>?_⟩) d (λ _=>c) ?_;rotate_left
 ·go_simp;first | done | rfl
 simp only[aT];exact VC.g):p:=h ⟨k⟩
theorem sV (k:q) (h:O0 q->p:=by
 intro Z9;replace i:av k 0 (aa e ZY f) a.xs:=i;replace j:av k 0 (aa x B y) a.ys:=j;have r:=g.c0;have s:=g.c2;have t:=g.c4;have G:=g.lt;have H:=A.size;have w:U (∀(C:aG) (F D:J) l,ap k l->av l k.heap.size (aa C F D) d.parts->aY prog 121 #[br q,am d.size C F D,aw d.ok] l λ z b=>z=aV (aE (ai (bf a d).1)) /\ (∃ZX,eY b q v (bf a d).2 ZX) /\ bW q v l b):= λ C F D l c m=>zF o E K A c m
 revert w;revert H;revert G;revert t;revert s;revert r;revert j;revert i;exact Z9.g):p:=h ⟨k⟩
theorem ta (k:q) (h:O0 q->p:=by
 intro VC;refine bX (i:=4) (v:=?_) I ah ah ah (λ _ _ _ a=>a) aX (Or.inl ⟨a6,λ b f=>?_⟩) d (λ _=>c) ?_;rotate_left
 ·go_simp;first | done | rfl
 simp only[aT];refine bX (i:=5) (v:=?_) I ah ah ah (λ _ _ _ a=>a) aX (Or.inl ⟨a6,λ b f=>?_⟩) d (λ _=>c) ?_;rotate_left
 ·go_simp;first | done | rfl
 simp only[aT];exact VC.g):p:=h ⟨k⟩
theorem m9 (k:q) (h:O0 q->p:=by
 intro VC;replace m:=ag s m;replace n:=ag s n;replace x:=ag s x;replace r:=ag s r;replace u:=ag s u;replace w:=ag s w;replace e:=aB s c e;replace f:=aB s d f;replace c:=ag s c;replace d:=ag s d;revert d;revert c;revert f;revert e;revert w;revert u;revert r;revert x;revert n;revert m;exact VC.g):p:=h ⟨k⟩
theorem ol (k:q) (h:O0 q->p:=by
 intro VC;refine bX (i:=9) (v:=?_) I ah ah ah (λ _ _ _ a=>a) aX (Or.inl ⟨a6,λ b f=>?_⟩) d (λ _=>c) ?_;rotate_left
 ·go_simp;first | done | rfl
 simp only[aT];exact VC.g):p:=h ⟨k⟩
theorem kX (k:q) (h:O0 q->p:=by
 intro VC;refine(n.o _ (r.below k)).mono ?_;rintro f d ⟨⟨F,rfl,D⟩,m⟩;obtain⟨u,x,v,rfl,q⟩:=D.ints;have b:=w.below m;have g:=bW.of_below (D:=p) (B:=s) m;revert g;revert b;revert q;revert m;revert D;revert d u x v;exact VC.g):p:=h ⟨k⟩
theorem ib (k:q) (h:O0 q->p:=by
 intro VC;have Q:=ab Z8.len;have Z9:=ab Z6.len;have T:b=m:=by rw[<- Q.o,<- Z9.o];exact Y
 revert T;revert Z9;revert Q;exact VC.g):p:=h ⟨k⟩
theorem zg (k:q) (h:O0 q->p:=by
 intro VC;have d:aA m (m+1) wr (dH wr):=aA.of_below z;have c:=YE.below z;refine iZ (i:=0) (v:=?_) I ah ah ah (λ _ _ _ a=>a) aX ah ah (Or.inl ⟨a6,λ b f=>?_⟩) ⟨d,c⟩ ?_;rotate_left
 ·obtain⟨⟨Zw,Zv,Zu,Zt,Zs,Zr⟩,_,_⟩:=f.2;go_simp;first | done | rfl
 simp only[aT];refine bX (i:=1) (v:=?_) I ah ah ah (λ _ _ _ a=>a) aX (Or.inl ⟨a6,λ b f=>?_⟩) d (λ _=>c) ?_;rotate_left
 ·go_simp;first | done | rfl
 simp only[aT];refine bX (i:=2) (v:=?_) I ah ah ah (λ _ _ _ a=>a) aX (Or.inl ⟨a6,λ b f=>?_⟩) d (λ _=>c) ?_;rotate_left
 ·go_simp;first | done | rfl
 simp only[aT];revert c;revert d;exact VC.g):p:=h ⟨k⟩
theorem iY (k:q) (h:O0 q->p:=by
 intro VC;refine dn ?_;refine dg ?_;intro z Zc;have p:=ab (r.trans (Zc.mono r.size));clear Zc;revert p;revert z;exact VC.g):p:=h ⟨k⟩
theorem hG (k:q) (h:O0 q->p:=by
 intro VC;obtain⟨q,k⟩:∃q:J,a.a=(q:F):=⟨a.a.toNat,by have:=j.a0;omega⟩;revert k;revert q;exact VC.g):p:=h ⟨k⟩
theorem oh (k:q) (h:O0 q->p:=by
 intro VC;have Z5:U (∀e,aC 25 #[ba #[M y.num,M y.den],aw y.ok] e (aE (ai (cM y++[10])))):= λ e=>DL y e
 revert Z5;exact VC.g):p:=h ⟨k⟩
theorem yp (k:q) (h:O0 q->p:=by
 intro VC;refine wp_append_lies _ _ _ 27 I (e+1) 3 Zh (M 0) 1 8 underlying27 Zj.o Z0.o.1 Z0.o.2.1 Z0.o.2.2 I aX (aa q i r) i ((hO p g i).map (ed .i64)) I (JV ZJ.o (Below.trans (az wr _) ((bI _).mono ar))) (ad wr.heap.size 0) 1 1 [M Q] I I (Nf wr _ _) (λ YC Zi=>by simp at Zi;subst Zi;rfl) aX (by unfold maxLen;omega) E (by simp;omega) _ I (λ s Z7 C ZX P ZI ZH=>?_);have y:=ZJ.o;have d:Below e wr C:=cV A (by simp;omega) P (λ W u=>by have:=(fs y W u).1;omega);have c: C.cell? (ad e 1)=Z (aa q i r) /\ C.frozen? (ad e 1)=ak:=⟨Bs P o.1 Z1.o,IU P o.1 o.2 Z1.o⟩;have ZY: C.cell? (ad e 0)=Z (M l):=Bs P (ag (Below.trans (az wr _) ((bI _).mono ar)) ZZ) Z1.o;revert ZY;revert c;revert d;revert y;revert ZH;revert ZI;revert P;revert ZX;revert s Z7 C;exact VC.g):p:=h ⟨k⟩
theorem pX (k:q) (h:O0 q->p:=by
 intro VC;rw[l];have m:=ab l;have k:U (∀e,dp e->aC 158 #[aE (ai i)] e (bz c.1 c.2 ae)):= λ e Z0=>by rw[<- u];exact DO c.1 c.2 e t Z0
 revert k;revert m;exact VC.g):p:=h ⟨k⟩
theorem p6 (k:q) (h:O0 q->p:=by
 intro VC;refine bX (i:=12) (v:=?_) I ah ah ah (λ _ _ _ a=>a) aX (Or.inl ⟨a6,λ b f=>?_⟩) d (λ _=>c) ?_;rotate_left
 ·go_simp;first | done | rfl
 simp only[aT];exact VC.g):p:=h ⟨k⟩
theorem mY (k:q) (h:O0 q->p:=by
 intro VC;refine(cn _ _ _ _ _ _ D).mono ?_;rintro n u ⟨rfl,i⟩;obtain⟨c,d,e,f⟩:=cj (a.heap.size+1+1) i ar;have b:ap a u:=(((az a _).alloc ar _).alloc bO _).trans (i.mono bO);revert b;revert f;revert e;revert d;revert c;revert i;revert u;exact VC.g):p:=h ⟨k⟩
theorem jg (k:q) (h:O0 q->p:=by
 intro VC;refine(oy _ _ _ _ _ _ _ _ _ _ _ (Z8.below X) (Z6.below X)).mono ?_;exact VC.g):p:=h ⟨k⟩
theorem oj (k:q) (h:O0 q->p:=by
 intro VC;refine(A.o _ (n.below f)).mono ?_;rintro G x ⟨rfl,o⟩;have q:=v.below o;have u:=y.trans (o.mono E);have r:=au f o;replace w:=ag o w;replace z:=ag o z;have D:=o.size;revert D;revert z;revert w;revert r;revert u;revert q;revert o;revert x;exact VC.g):p:=h ⟨k⟩
theorem l5 (k:q) (h:O0 q->p:=by
 intro VC;have e:=eQ o G E P;have f:=eQ o H E Q;have c:=cW o G E;have d:=cW o H E;revert d;revert c;revert f;revert e;exact VC.g):p:=h ⟨k⟩
theorem qb (k:q) (h:O0 q->p:=by
 intro VC;rw[J];have r:U (∀p,aC 98 #[aE (ai (bG e j))] p (bz e j ae)):= λ p=>DM e j p ZT
 revert r;exact VC.g):p:=h ⟨k⟩
theorem sB (k:q) (h:O0 q->p:=by
 intro VC;refine aK (v:=aL #[ba #[M a.s,aa c d f,M a.t,aa i g l,M a.a,aa m a.gg.length n],aE (ai (([110,111])++[10]))]) (by simp[aJ,results12,go_sem,W,X,Y,Zx,Z9,Z7,Z4,Z3,Z2,Z1,Z0,ZZ];first | done | rfl) I ?_;exact VC.g):p:=h ⟨k⟩
theorem sY (k:q) (h:O0 q->p:=by
 intro VC;have ZP:U (∀O,aC 40 #[aw ae,aE (aN #[111,107])] O (aE (ai ([111,107]++[10])))):= λ O=>(le ae [111,107] O aX).mono λ P ZG ZA=>⟨by rw[ZA.1];rfl,by rw[<- ZA.2];exact Below.refl _ _⟩
 revert ZP;exact VC.g):p:=h ⟨k⟩
theorem yZ (k:q) (h:O0 q->p:=by
 intro VC;have S:U (∀e,an e c d a.xs->db 42 #[am a.s c d f,aE (ai N)] e y):= λ e ZE=>by rw[<- ZR];exact D0 a.s _ _ _ a.xs N e ZE J.m
 have O:U (h5 y /\ y.length<=16):=by rw[<- ZR];exact rm J.m N
 have Z5:U (∀ZQ P ZS e,an e ZQ P y->aC 35 #[aa ZQ P ZS] e (aE (ai (b2 y)))):= λ ZQ P ZS e ZI=>qk ZQ P ZS y e ZI O.o.1 (by have:=ZI.len;have:=O.o.2;omega)
 revert Z5;revert O;revert S;exact VC.g):p:=h ⟨k⟩
theorem et (k:q) (h:O0 q->p:=by
 intro VC;refine dn ?_;refine dg ?_;intro L k;revert k;revert L;exact VC.g):p:=h ⟨k⟩
theorem s4 (k:q) (h:O0 q->p:=by
 intro VC;have W:=au C r;go_simp;have v:aA (b.heap.size+1) (b.heap.size+1+1) A ZR:=aA.of_below W;refine j _ _ v ?_;have p:=v;clear v;refine eq 4 (v:=?_) I p (λ e S=>?_) ?_;rotate_left
 ·obtain⟨L,N,O,P,Q,R⟩:=eJ q S;go_simp;first | done | rfl
 simp only[aT];revert p;revert W;exact VC.g):p:=h ⟨k⟩
theorem k4 (k:q) (h:O0 q->p:=by
 intro VC;refine(qi _ _ _ _ _ _ _ c a _ (x.below n) (o.below n)).mono ?_;rw[i];exact VC.g):p:=h ⟨k⟩
theorem eh (k:q) (h:O0 q->p:=by
 intro VC;refine tf ah ?_ _;exact VC.g):p:=h ⟨k⟩
theorem fI (k:q) (h:O0 q->p:=by
 intro VC;obtain⟨c,d,e,f⟩:=cj (a.heap.size+1) i ar;revert f;revert e;revert d;revert c;exact VC.g):p:=h ⟨k⟩
theorem yz (k:q) (h:O0 q->p:=by
 intro VC;have ZW:U (∀r,an r s b n->aC 157 #[am g s b y] r (M v)):= λ r ZQ=>by rw[<- ZY.o];exact gi _ _ _ _ n r ZQ (λ p Z0=>by have:=N.o p Z0;omega) K
 have ZV:U (∀r,an r t b o->aC 157 #[am q t b z] r (M S)):= λ r ZQ=>by rw[<- ZX.o];exact gi _ _ _ _ o r ZQ (λ p Z0=>by have:=P.o p Z0;omega) K
 revert ZV;revert ZW;exact VC.g):p:=h ⟨k⟩
theorem sX (k:q) (h:O0 q->p:=by
 intro VC;obtain⟨A,D⟩:∃ZA,(b.alloc (al #[M a.s,aa c d f,M a.t,aa i g l,M a.a,aa m a.gg.length n] 32)).alloc (al #[M 0,aa aj 0 0,M 0,aa aj 0 0,M 0,aa aj 0 0] 32)=ZA:=⟨_,I⟩;rw[D];revert D;revert A;exact VC.g):p:=h ⟨k⟩
theorem kY (k:q) (h:O0 q->p:=by
 intro VC;replace e:=aB y c e;replace f:=aB y d f;replace c:=ag y c;replace d:=ag y d;revert d;revert c;revert f;revert e;exact VC.g):p:=h ⟨k⟩
theorem hE (k:q) (h:O0 q->p:=by
 intro VC;intro t u v i b l;rw[o.o];obtain⟨d,f,k,x,g,m⟩:=b.m;obtain⟨p,q,s,y,j,n⟩:=b.n;have w:=b.c0;revert w;revert n;revert j;revert y;revert m;revert g;revert x;revert l;revert b;revert i;revert t u v d f k p q s;exact VC.g):p:=h ⟨k⟩
theorem zn (k:q) (h:O0 q->p:=by
 intro VC;have Z7:U ((b2 y).length<=6000):=by rw[U,<- X];exact jX T.o W.o
 rw[X] at Y T W ⊢;have Z:U (∀Z2 Z9 Z5 e,an e Z2 Z9 y->aC 35 #[aa Z2 Z9 Z5] e (aE (ai (b2 y)))):= λ Z2 Z9 Z5 e ZZ=>qk Z2 Z9 Z5 y e ZZ T.o (by have:=ZZ.len;have:=W.o;omega)
 obtain⟨J,Z0⟩:∃J,b2 y=J:=⟨_,I⟩;rw[Z0] at Z Z7 ⊢;have Z1:¬9223372036854775807<(ai J).size +1:=by rw[bs];have:=Z7.o;omega
 have G:U (ai J++aN #[10]=ai (J++[10])):=by rw[U,show aN #[10]=ai [10] from I,dd]
 clear Z0;revert G;revert Z1;revert Z7;revert Z;revert W;revert T;revert Y;revert J;exact VC.g):p:=h ⟨k⟩
theorem jS (k:q) (h:O0 q->p:=by
 intro VC;obtain⟨X,T⟩:∃X:J,a.a=(X:F):=⟨a.a.toNat,by have:=G.a0;omega⟩;revert T;revert X;exact VC.g):p:=h ⟨k⟩
theorem yv (k:q) (h:O0 q->p:=by
 intro VC;have w:=f.o.gb1 a C;have N:=J6 f.o a V;have G:=gO a E;have s:=I1 a E;have z:U (eU b d (a+1)=eU b d a+O d a*cP b (2^a) c):=by show eU b d a+O d a*cP b (2^a) b.length=_;rw[f.o.xlen]
 have v:U (0<=cP b (2^a) c /\ cP b (2^a) c<=48000000*(c:F)):=kt b (2^a) c D f.o.xb c aZ;obtain⟨i,r⟩:∃i:J,U (2^a=i):=⟨_,I⟩;rw[r.o] at s G;obtain⟨g,m⟩:∃g:F,U (cP b i c=g):=⟨_,I⟩;have A:0<=g:=by rw[<- m.o,<- r.o];exact v.o.1
 have B:g<=768000000:=by rw[<- m.o,<- r.o];have:=v.o.2;omega
 have K:=Cf (O d a) g w.1 w.2 A B;revert K;revert B;revert A;revert m;revert G;revert s;revert r;revert v;revert z;revert N;revert w;revert i g;exact VC.g):p:=h ⟨k⟩
theorem kW (k:q) (h:O0 q->p:=by
 intro T;replace d:=aB a b d;replace e:=aB a c e;replace b:=ag a b;replace c:=ag a c;revert c;revert b;revert e;revert d;exact T.g):p:=h ⟨k⟩
theorem pQ (k:q) (h:O0 q->p:=by
 intro VC;refine eq 5 (v:=?_) I p (λ e S=>?_) ?_;rotate_left
 ·obtain⟨L,N,O,P,Q,R⟩:=eJ q S;go_simp;first | done | rfl
 simp only[aT];exact VC.g):p:=h ⟨k⟩
theorem y8 (k:q) (h:O0 q->p:=by
 intro VC;have ZM:=N.o p Z2;have ZL:=P.o p Z2;have ZB:=ZN.o p Z0;have ZS:U (ih n o v S (p+1)=ih n o v S p+max 0 (O n p*S-O o p*v)):=rfl;have Zy:(p:F)<=16:=E;have ZA:(0:F)<=(p:F):=E;have Zz:(p:F)<(b:F):=E;have ZJ:=lw ZM.1 ZM.2 E Z3;have ZI:=lw ZL.1 ZL.2 E Z4;obtain⟨ZH,Zx⟩:∃Zv,O n p*S=Zv:=⟨_,I⟩;obtain⟨ZG,Zw⟩:∃Zv,O o p*v=Zv:=⟨_,I⟩;rw[Zx] at ZJ ZS;rw[Zw] at ZI ZS;have Zu:IntKind.i64.wrap (O n p*S)=ZH:=by rw[Zx,bV];omega
 have Zt:IntKind.i64.wrap (O o p*v)=ZG:=by rw[Zw,bV];omega
 clear Zx Zw;revert Zt;revert Zu;revert ZS;revert ZI;revert ZJ;revert Zz;revert ZA;revert Zy;revert ZB;revert ZL;revert ZM;revert ZH ZG;exact VC.g):p:=h ⟨k⟩
theorem l3 (k:q) (h:O0 q->p:=by
 intro VC;replace e:=aB x c e;replace f:=aB x d f;replace c:=ag x c;replace d:=ag x d;revert d;revert c;revert f;revert e;exact VC.g):p:=h ⟨k⟩
theorem l6 (k:q) (h:O0 q->p:=by
 intro VC;replace e:=aB n c e;replace f:=aB n d f;replace c:=ag n c;replace d:=ag n d;revert d;revert c;revert f;revert e;exact VC.g):p:=h ⟨k⟩
theorem zf (k:q) (h:O0 q->p:=by
 intro VC;have V:=(y.cell (p:=(ad g.heap.size 0)) (by show g.heap.size<m;have:=G.o;omega)).trans Zu.o.1;have v:=(y.cell (p:=(ad g.heap.size 1)) (by show g.heap.size<m;have:=G.o;omega)).trans Zu.o.2.1;have W:=(y.cell (p:=(ad (g.heap.size+1) 0)) (by show g.heap.size+1<m;have:=G.o;omega)).trans Zu.o.2.2.1;have Q:=(y.cell (p:=(ad (g.heap.size+1) 1)) (by show g.heap.size+1<m;have:=G.o;omega)).trans Zu.o.2.2.2;revert Q;revert W;revert v;revert V;exact VC.g):p:=h ⟨k⟩
theorem qd (k:q) (h:O0 q->p:=by
 intro VC;refine iU ?_;intro ZP ZD;have Z7:ap b ZP:=by rw[<- ZD];exact aD
 have Z5:=jU (w:=b) ZD;clear ZD;refine(r.o _).mono ?_;rintro Zx y ⟨rfl,K⟩;have v:=Z5.below K;have A:=au Z7 K;have ZY:=v.z;revert ZY;revert A;revert v;revert K;revert Z5;revert Z7;revert ZP y;exact VC.g):p:=h ⟨k⟩
theorem eu (k:q) (h:O0 q->p:=by
 intro VC;refine j _ _ v ?_;have p:=v;revert p;exact VC.g):p:=h ⟨k⟩
theorem y5 (k:q) (h:O0 q->p:=by
 intro VC;go_simp;have A:Below e wr ((wr.alloc (al #[M Q] 3)).drew):=((az wr _).mono E).trans (bI _ |>.mono (by simp;omega));have o:((wr.alloc (al #[M Q] 3)).drew).cell? (ad e 1)=Z (aa q i r) /\ ((wr.alloc (al #[M Q] 3)).drew).frozen? (ad e 1)=ak:=⟨ag (Below.trans (az wr _) ((bI _).mono ar)) L,aB (Below.trans (az wr _) ((bI _).mono ar)) L Z3⟩;revert o;revert A;exact VC.g):p:=h ⟨k⟩
theorem qe (k:q) (h:O0 q->p:=by
 intro VC;rintro n y ⟨⟨P,rfl,q⟩,r⟩;obtain⟨s,x,t,rfl,w⟩:=q.ints;have p:=au (az j _) r;replace e:=aB p c e;replace f:=aB p d f;replace c:=ag p c;replace d:=ag p d;have v:=au l p;revert v;revert d;revert c;revert f;revert e;revert p;revert w;revert r;revert q;revert y s x t;exact VC.g):p:=h ⟨k⟩
theorem zi (k:q) (h:O0 q->p:=by
 intro VC;have K:=ab (ZG.o b ZF);have w:U (bN d f i g e (b+1)=dh d f i b (bN d f i g e b) e):=rfl;obtain⟨j,o⟩:∃j,U (bN d f i g e b=j):=⟨_,I⟩;rw[o.o] at n;have Z0:U (j.length=g):=by rw[<- o.o];exact jj _ _ _ _ _ _
 have y:U (∀c,c<=e->∀P,0<=O (dh d f i b j c) P /\ O (dh d f i b j c) P<=16000000000000*(b:F)+1000000000000*(c:F)):= λ c z P=>uc d f i b j _ e v N.o (by rw[<- o.o];exact K.o) c z P
 revert y;revert Z0;revert n;revert o;revert w;revert K;revert j;exact VC.g):p:=h ⟨k⟩
theorem yo (k:q) (h:O0 q->p:=by
 intro VC;have Z2:U (∀r,an r s b n->an r t b o->db 81 #[am g s b y,am q t b z,aE ⟨#[97,110,100]⟩] r (bN (λ w x=>w&&&x) n o b b b)):= λ r ZJ YY=>tv g q _ _ _ _ _ _ n o r ZJ YY K aZ N.o P.o
 revert Z2;exact VC.g):p:=h ⟨k⟩
theorem m5 (k:q) (h:O0 q->p:=by
 intro VC;have Z7:a.heap.size+1+1<u.heap.size:=b6 c;have W:¬a.heap.size+1+1=a.heap.size:=E;revert W;revert Z7;exact VC.g):p:=h ⟨k⟩
theorem e5 (k:q) (h:O0 q->p:=by
 intro VC;have l:ap a j:=dz i;revert l;exact VC.g):p:=h ⟨k⟩
theorem yX (k:q) (h:O0 q->p:=by
 intro VC;obtain⟨f,H⟩:∃f,U (aW n=f):=⟨_,I⟩;obtain⟨k,S⟩:∃k,U (aW o=k):=⟨_,I⟩;rw[H.o] at ZX Z2;rw[S.o] at ZW ZY;have W:∀c,0<=a9 (bm (bU c)) n b /\ a9 (bm (bU c)) n b<=1000000:= λ c=>by rw[<- Q.o];exact lv (bU c) A
 have Z4:∀c,0<=a9 (bm (bU c)) o b /\ a9 (bm (bU c)) o b<=1000000:= λ c=>by rw[<- Z9.o];exact lv (bU c) V
 have x:U (iG g n e o=bq (g4 n o f k b) b):=by rw[U];unfold iG;rw[w,Q.o,H.o,S.o];rfl
 rw[x.o];revert x;revert Z4;revert W;revert ZY;revert ZW;revert Z2;revert ZX;revert S;revert H;revert f k;exact VC.g):p:=h ⟨k⟩
theorem mX (k:q) (h:O0 q->p:=by
 intro VC;have s:ap a wr:=cV V V.size o (λ b n=>by injection n with n;omega);revert s;exact VC.g):p:=h ⟨k⟩
theorem pS (k:q) (h:O0 q->p:=by
 intro VC;refine(k.o _ (r.below g)).mono ?_;rintro f d ⟨rfl,x⟩;have b:=n.below x;have q:=bW.of_below (D:=p) (B:=s) x;have E:=g.trans (x.mono w);clear x;revert E;revert q;revert b;revert d;exact VC.g):p:=h ⟨k⟩
theorem zp (k:q) (h:O0 q->p:=by
 intro VC;have Z2:U (∀r,an r s b n->an r t b o->db 219 #[am g s b y,am q t b z] r (bN (λ w x=>w&&&x) n o b b b)):= λ r ZQ YV=>qn g q _ _ _ _ _ _ n o r ZQ YV K aZ N.o P.o
 revert Z2;exact VC.g):p:=h ⟨k⟩
theorem ox (k:q) (h:O0 q->p:=by
 intro VC;rintro H A ⟨⟨J,K,T,rfl,Z7⟩,W⟩;have q:=B.below W;have X:=au D W;have Y:an A c d a.xs:=(t.row.below X).view;have Z9:=Z7.view;revert Z9;revert Y;revert X;revert q;revert W;revert Z7;revert A J K T;exact VC.g):p:=h ⟨k⟩
theorem kn (k:q) (h:O0 q->p:=by
 intro VC;obtain⟨_,_,j,L,_,_,_⟩:=cv A;obtain⟨_,_,_,R,_,_,_⟩:=cv S;revert R;revert L;revert j;exact VC.g):p:=h ⟨k⟩
theorem yW (k:q) (h:O0 q->p:=by
 intro VC;refine bX (i:=3) (v:=?_) I ah ah ah (λ _ _ _ a=>a) aX (Or.inl ⟨a6,λ b f=>?_⟩) d (λ _=>c) ?_;rotate_left
 ·have ZN:=(f.cell (p:=(ad m.heap.size 1)) (show m.heap.size<e from E)).trans Z2;go_simp;first | done | rfl
 simp only[aT];exact VC.g):p:=h ⟨k⟩
theorem sM (k:q) (h:O0 q->p:=by
 intro VC;have r:U (∀c,dp c->aC 245 #[M ZJ] c (aE (ai (hw ZJ)))):= λ c z=>Eg ZJ J.1 J.2 c z.pow
 revert r;exact VC.g):p:=h ⟨k⟩
theorem yG (k:q) (h:O0 q->p:=by
 intro VC;have z:U (∀x,an x q m j->db 294 #[am g q m r,M (n:F)] x (bF (λ p=>n&&&p) j m m)):= λ x ZR=>GZ g n _ _ _ j x ZR P E L.o R
 obtain⟨A,C⟩:∃A,bF (λ p=>n&&&p) j m m=A:=⟨_,I⟩;revert C;revert z;revert A;exact VC.g):p:=h ⟨k⟩
theorem yO (k:q) (h:O0 q->p:=by
 intro VC;have Z7:U (∀X,X<q->0<=ip a j g i y z X /\ ip a j g i y z X<=4000000000000000000):= λ X ZC=>KB Z9 S ⟨E,ZS⟩ ⟨E,ZR⟩ ⟨E,E⟩ Zh ZC
 have ZT:U (∀X,X<q->_):= λ X ZC=>CX (Z9 X ZC) (S X ZC) (X:=y) (Y:=z) (num:=g) (den:=i) ⟨E,ZS⟩ ⟨E,ZR⟩ ⟨E,E⟩ Zh
 revert ZT;revert Z7;exact VC.g):p:=h ⟨k⟩
theorem yV (k:q) (h:O0 q->p:=by
 intro VC;have ZF:U (iq g n q o=bh g (im (bN (λ w x=>w&&&x) n o b b b) b)):=by rw[U];unfold iq;rw[B,Q.o,Z9.o];rfl
 rw[ZF.o];obtain⟨j,ZY⟩:∃YW,bN (λ w x=>w&&&x) n o b b b=YW:=⟨_,I⟩;rw[ZY] at Z3 Z4 Z2 ⊢;have ZV:U (∀p,p<b->0<=O (im j b) p /\ O (im j b) p<=4000000000000000000):= λ p _=>by have:=JY (N:=b) Z3.o p;omega
 have Z1:U (im j b=(j.set (b-1) (O j (b-1)+O j 0)).set 0 0):=rfl;revert Z1;revert ZV;revert Z2;revert Z4;revert Z3;revert ZY;revert ZF;revert j;exact VC.g):p:=h ⟨k⟩
theorem oe (k:q) (h:O0 q->p:=by
 intro VC;replace e:=aB R c e;replace f:=aB R d f;replace c:=ag R c;replace d:=ag R d;have ZZ:=au W R;revert ZZ;revert d;revert c;revert f;revert e;exact VC.g):p:=h ⟨k⟩
theorem y4 (k:q) (h:O0 q->p:=by
 intro VC;have Z6:=(x.cell (p:=(ad t 0)) (by show t<e;omega)).trans H;have Z5:=(x.cell (p:=(ad t 1)) (by show t<e;omega)).trans K;have ZG:=(x.frozen (p:=(ad t 0)) (by show t<e;omega)).trans D;have ZF:=(x.frozen (p:=(ad t 1)) (by show t<e;omega)).trans G;have Z4:∀W,(aa q i r).ownBlock=Z W->W≠t:= λ W u=>by have:=(w.block W u).1;omega
 revert Z4;revert ZF;revert ZG;revert Z5;revert Z6;exact VC.g):p:=h ⟨k⟩
theorem sJ (k:q) (h:O0 q->p:=by
 intro VC;refine eq 7 (v:=?_) I p (λ e S=>?_) ?_;rotate_left
 ·obtain⟨L,N,O,P,Q,R⟩:=eJ q S;go_simp;first | done | rfl
 simp only[aT];exact VC.g):p:=h ⟨k⟩
theorem mW (k:q) (h:O0 q->p:=by
 intro VC;have o:U (ai [114,105,103,104,116]=aN #[114,105,103,104,116]):=ab I;revert o;exact VC.g):p:=h ⟨k⟩
theorem k7 (k:q) (h:O0 q->p:=by
 intro VC;have G:(0:F)<=(b:F):=E;have Z9:(b:F)<(g:F):=E;revert Z9;revert G;exact VC.g):p:=h ⟨k⟩
theorem yA (k:q) (h:O0 q->p:=by
 intro VC;refine bX (i:=4) (v:=?_) I ah ah ah (λ _ _ _ a=>a) aX (Or.inl ⟨a6,λ b f=>?_⟩) d (λ _=>c) ?_;rotate_left
 ·have YD:=f.keep ZX E;have Y5:=ZT.o;go_simp;first | done | rfl
 simp only[aT];exact VC.g):p:=h ⟨k⟩
theorem k6 (k:q) (h:O0 q->p:=by
 intro VC;have u:a.heap.size+1<j.heap.size:=b6 c;have k:=o.below l;revert k;revert u;exact VC.g):p:=h ⟨k⟩
theorem y2 (k:q) (h:O0 q->p:=by
 intro VC;have Y:=ab Z0;have A:U (gw v m=bh v (gQ m m.length v.toNat)):=by show gw v m=_;unfold gw;rw[a7 w];rfl
 rw[A.o];obtain⟨r,Z8⟩:∃r:J,v.toNat=r:=⟨_,I⟩;have Z5:v=(r:F):=by rcases cG.1 Z7 with Z3 | Z3 | Z3 | Z3<;>omega
 rw[Z8] at S Z9 ⊢;have X:U (∀ZZ,ZZ<r->2^ZZ<m.length):= λ ZZ u=>by rw[Y.o,S];exact Oc ⟨r,Z9⟩ ⟨ZZ,u⟩
 have W:=ab (λ b Z4=>I2 m m.length B Z6 b Z4);revert W;revert X;revert Z9;revert S;revert Z5;revert Z8;revert A;revert Y;revert r;exact VC.g):p:=h ⟨k⟩
theorem l2 (k:q) (h:O0 q->p:=by
 intro VC;have D:1<=g /\ g<=4:=by rcases cG.1 o with r | r | r | r<;>omega
 revert D;exact VC.g):p:=h ⟨k⟩
theorem yq (k:q) (h:O0 q->p:=by
 intro VC;have H:U (∀e,aC 40 #[aw ak,aE (aN #[111,107])] e (aE (ai ([110,111]++[10])))):= λ e=>(le ak [111,107] e aX).mono λ Z5 ZN ZS=>⟨by rw[ZS.1];rfl,by rw[<- ZS.2];exact Below.refl _ _⟩
 revert H;exact VC.g):p:=h ⟨k⟩
theorem pZ (k:q) (h:O0 q->p:=by
 intro Za;replace d:=d.span H E;replace b:=aA.row H b (λ ZX j=>by have:=dD j;omega);replace c:=c.trans H;have ZK:=H.size;revert ZK;revert c;revert b;revert d;exact Za.g):p:=h ⟨k⟩
theorem k8 (k:q) (h:O0 q->p:=by
 intro VC;have Z7:=(Z8.below X).below i;have Z5:=(Z6.below X).below i;revert Z5;revert Z7;exact VC.g):p:=h ⟨k⟩
theorem za (k:q) (h:O0 q->p:=by
 intro VC;refine aK (v:=aL #[ba #[M a.s,aa c d f,M a.t,aa i g l,M a.a,aa m a.gg.length n],aE (ai (cM y++[10]))]) (by simp[aJ,results11,go_sem,Z7,Z2,Z1,Z0,ZZ,ZY,ZX,ZW,ZV,ZU,ZT,ZS]) I ?_;exact VC.g):p:=h ⟨k⟩
theorem oq (k:q) (h:O0 q->p:=by
 intro VC;replace e:=aB k c e;replace f:=aB k d f;replace c:=ag k c;replace d:=ag k d;revert d;revert c;revert f;revert e;exact VC.g):p:=h ⟨k⟩
theorem ot (k:q) (h:O0 q->p:=by
 intro VC;replace e:=aB w c e;replace f:=aB w d f;replace c:=ag w c;replace d:=ag w d;revert d;revert c;revert f;revert e;exact VC.g):p:=h ⟨k⟩
theorem mV (k:q) (h:O0 q->p:=by
 intro VC;have o:U (ai [108,101,102,116]=aN #[108,101,102,116]):=ab I;revert o;exact VC.g):p:=h ⟨k⟩
theorem k5 (k:q) (h:O0 q->p:=by
 intro VC;have D:=ab A;have H:=ab B;have p:=ab o.len;have K:=ab x.len;revert K;revert p;revert H;revert D;exact VC.g):p:=h ⟨k⟩
theorem l4 (k:q) (h:O0 q->p:=by
 intro VC;have P:(0:F)<=(b:F):=E;have Q:(b:F)<(c:F):=E;revert Q;revert P;exact VC.g):p:=h ⟨k⟩
theorem p7 (k:q) (h:O0 q->p:=by
 intro VC;replace m:=ag v m;replace n:=ag v n;replace x:=ag v x;replace r:=ag v r;replace u:=ag v u;replace w:=ag v w;revert w;revert u;revert r;revert x;revert n;revert m;exact VC.g):p:=h ⟨k⟩
theorem l1 (k:q) (h:O0 q->p:=by
 intro VC;have q:ap a wr:=R.trans (m.mono E);revert q;exact VC.g):p:=h ⟨k⟩
theorem tc (k:q) (h:O0 q->p:=by
 intro VC;have ZY:fu g m S n (aO e b):=js Zz H.o (D.o b (by rw[p.o];exact Y)) K.o N.len;have v:=ab ZY;clear ZY;have W:=ab (gn u b);revert W;revert v;exact VC.g):p:=h ⟨k⟩
theorem qg (k:q) (h:O0 q->p:=by
 intro VC;refine(na _ _ _ _ _ _ _ n e _ (x.below bB) (o.below bB)).mono ?_;rw[X];rintro Z2 j ⟨rfl,i⟩;revert i;revert j;exact VC.g):p:=h ⟨k⟩
theorem sR (k:q) (h:O0 q->p:=by
 intro r;have S:=g a m;obtain⟨e,f⟩:∃e:J,O c a=(e:F):=⟨(O c a).toNat,E⟩;have l:U ((O c a).toNat=e):=by show (O c a).toNat=e;omega
 revert l;revert f;revert S;revert e;exact r.g):p:=h ⟨k⟩
theorem sD (k:q) (h:O0 q->p:=by
 intro VC;refine gJ (λ e:af=>aA (b.heap.size+1) (b.heap.size+1+1) C e) (λ _=>True) 99 ah ?_;exact VC.g):p:=h ⟨k⟩
theorem mU (k:q) (h:O0 q->p:=by
 intro VC;have v:bi 0 ((aH g:F)-1) b=ae:=by simpa [b4,o] using w
 revert v;exact VC.g):p:=h ⟨k⟩
theorem sA (k:q) (h:O0 q->p:=by
 intro VC;have B:ap k wr:=cV Z0 Z0.size o (λ b t=>by injection t with t;omega);have m:=cW o ZE E;have n:=cW o ZD E;revert n;revert m;revert B;exact VC.g):p:=h ⟨k⟩
theorem s1 (k:q) (h:O0 q->p:=by
 intro VC;rintro Zx ZH ⟨⟨Z6,rfl,ZR⟩,q⟩;obtain⟨ZM,ZK,ZL,rfl,ZS⟩:=ZR.ints;have ZO:=cm ZV q.size;replace D:=aB q B D;replace G:=aB q C G;replace B:=ag q B;replace C:=ag q C;have ZX:=ZW.below q;revert ZX;revert C;revert B;revert G;revert D;revert ZO;revert ZS;revert q;revert ZR;revert ZH ZM ZK ZL;exact VC.g):p:=h ⟨k⟩
theorem ze (k:q) (h:O0 q->p:=by
 intro VC;obtain⟨Zt,Zb,ZP,Zd⟩:=dC ZR ZE (ZW+ZX);have ZU:=ab Zb;clear Zb;obtain⟨Zw,Zv,_⟩:=ZP.cellAt ZS;obtain⟨Zs,Za,ZO,Zc⟩:=dC ZP ZS 0;have ZT:=ab Za;have Z0:=eO Zd Zc;have W:=cV Zx (by have:=Zx.size;omega) Z0 (λ p V=>by injection V with V;omega);replace e:=eQ Z0 c E e;replace f:=eQ Z0 d E f;replace c:=cW Z0 c E;replace d:=cW Z0 d E;have Zu:=Z0.size;rw[<- Z1.o] at ZO;have ZN:=ZO.view;clear Za Zd Zc Z0;revert ZN;revert ZO;revert Zu;revert d;revert c;revert f;revert e;revert W;revert ZT;revert Zv;revert Zw;revert ZU;revert ZP;revert Zt Zs;exact VC.g):p:=h ⟨k⟩
theorem m2 (k:q) (h:O0 q->p:=by
 intro VC;have o:U (ai [115,101,116]=aN #[115,101,116]):=ab I;revert o;exact VC.g):p:=h ⟨k⟩
theorem m3 (k:q) (h:O0 q->p:=by
 intro VC;have J: -1<=ZJ /\ ZJ<=8:=by rw[<- G];exact l8 _ _ _ H.gl
 rw[G];revert J;exact VC.g):p:=h ⟨k⟩
theorem op (k:q) (h:O0 q->p:=by
 intro T;rintro ZK k ⟨⟨n,rfl,g⟩,j⟩;obtain⟨q,p,r,rfl,m⟩:=g.ints;have a:ap f k:=bJ j;revert a;revert m;revert j;revert g;revert k q p r;exact T.g):p:=h ⟨k⟩
theorem sE (k:q) (h:O0 q->p:=by
 intro VC;have L:ap t wr:=cV Z1 Z1.size r (λ b i=>by injection i with i;omega);have w:=cW r Q E;have s:=cW r R E;revert s;revert w;revert L;exact VC.g):p:=h ⟨k⟩
theorem og (k:q) (h:O0 q->p:=by
 intro VC;have Z4:U ((bN (λ w x=>w&&&x) n o b b b).length=b):=jj _ _ _ _ _ _;revert Z4;exact VC.g):p:=h ⟨k⟩
theorem lY (k:q) (h:O0 q->p:=by
 intro VC;change de _ _ _ _ _ _ _ _ _ _ (dH _);exact VC.g):p:=h ⟨k⟩
theorem ow (k:q) (h:O0 q->p:=by
 intro VC;have O:a.heap.size+1<j.heap.size:=by have:=i.size;simp at this;omega
 revert O;exact VC.g):p:=h ⟨k⟩
theorem yU (k:q) (h:O0 q->p:=by
 intro VC;refine(P.o _).mono ?_;rintro r F ⟨rfl,s⟩;have B:=ag s (a:=(ad t.heap.size 0)) (v:=M k) ((c3 _ _ _ _ ar).trans ZX);have G:=ag s (a:=(ad t.heap.size 1)) (v:=M m) (fZ _ _ _ ZR);revert G;revert B;revert s;revert F;exact VC.g):p:=h ⟨k⟩
theorem zs (k:q) (h:O0 q->p:=by
 intro VC;have Zn:U (∀O,aY prog 39 #[aE (ai (bd a V))] O λ P ZG=>(∃Z6,P=aV (aL #[ba #[M a,Z6],aw ae]) /\ av ZG O.heap.size Z6 V) /\ ap O ZG):= λ O=>DR a V O Zz
 revert Zn;exact VC.g):p:=h ⟨k⟩
theorem zl (k:q) (h:O0 q->p:=by
 intro Zq;have Z4: wr.cell? (ad j a)=Z (aE e):=by have:=i.at.2.2.2.2 a e G;simpa using this
 have q:(f.map (·.data.toList))[a]? =Z e.data.toList:=by rw[jE,G];rfl
 have r:(bo 32 b.data.toList)[a]? =Z e.data.toList:=by rw[<- O.o];exact q
 revert r;revert q;revert Z4;exact Zq.g):p:=h ⟨k⟩
theorem ic (k:q) (h:O0 q->p:=by
 intro VC;have l:ap a k:=bJ i;revert l;exact VC.g):p:=h ⟨k⟩
theorem yD (k:q) (h:O0 q->p:=by
 intro VC;have C:U (aC 105 #[am a.s c d f,aa J K T] A (aw (aI a.s a.xs&&b7 a.s Y9))):=nf a.s _ _ _ _ _ _ a.xs Y9 A Y Z9;revert C;exact VC.g):p:=h ⟨k⟩
theorem yE (k:q) (h:O0 q->p:=by
 intro VC;have c:=aS i (a.heap.size+1) 0 (M 0);have d:=aS i (a.heap.size+1) 1 (aa aj 0 0);have R:=aB i (a:=(ad (a.heap.size+1) 0)) (v:=M 0) ar ar;have S:=aB i (a:=(ad (a.heap.size+1) 1)) (v:=aa aj 0 0) ar ar;revert S;revert R;revert d;revert c;exact VC.g):p:=h ⟨k⟩
theorem yN (k:q) (h:O0 q->p:=by
 intro VC;obtain⟨v,ZY⟩:∃v,U (aW n=v):=⟨_,I⟩;obtain⟨S,ZX⟩:∃S,U (aW o=S):=⟨_,I⟩;rw[ZY.o] at ZU Z4;rw[ZX.o] at ZT Z3;have ZC:=un ZU Z4 ZT Z3;have ZN:=ab (Hc (X:=v) (Y:=S) (n:=b) E Z4 E Z3 N.o P.o);have ZO:=ZN.o b aZ;have W:U (hu g n q o=bv (ih n o v S b) (v*S)):=by rw[U];unfold hu;rw[B,Q.o,ZY.o,ZX.o];rfl
 rw[W.o];obtain⟨j,Y3⟩:∃Zh,bv (ih n o v S b) (v*S)=Zh:=⟨_,I⟩;rw[Y3];have ZD:(b:F)<=16:=E;revert ZD;revert Y3;revert W;revert ZO;revert ZN;revert ZC;revert Z3;revert ZT;revert Z4;revert ZU;revert ZX;revert ZY;revert v S j;exact VC.g):p:=h ⟨k⟩
theorem mS (k:q) (h:O0 q->p:=by
 intro VC;have t:(0:F)<=(b:F):=E;have u:(b:F)<(g:F):=E;revert u;revert t;exact VC.g):p:=h ⟨k⟩
theorem p2 (k:q) (h:O0 q->p:=by
 intro VC;have H:=(b.below j).below z;have L:=(g.trans (bW.of_below j)).trans (bW.of_below z);revert L;revert H;exact VC.g):p:=h ⟨k⟩
theorem p5 (k:q) (h:O0 q->p:=by
 intro VC;have o:U (ai [114,101,103,114,101,116]=aN #[114,101,103,114,101,116]):=ab I;revert o;exact VC.g):p:=h ⟨k⟩
theorem m7 (k:q) (h:O0 q->p:=by
 intro VC;refine e7 13 I ah a6 (λ k j=>?_);go_simp;revert j;revert k;exact VC.g):p:=h ⟨k⟩
theorem yy (k:q) (h:O0 q->p:=by
 intro VC;have Q:=aS Z2 ZW.heap.size 0 (M k);have R:=aS Z2 ZW.heap.size 1 (aq u j j);have O:ap ZW ZN:=bJ Z2;have e:=aB O ZU ZM;have f:=aB O ZT ZL;have c:=ag O ZU;have d:=ag O ZT;have ZP:=ZX.below O;have Z1:=au Zt O;have Zp:=O.size;obtain⟨Y,Z9⟩:∃YH,ZW.heap.size=YH:=⟨_,I⟩;have Zs:Y<ZN.heap.size:=by have:=Z2.size;simp at this;omega
 revert Zs;revert Z9;revert Zp;revert Z1;revert ZP;revert d;revert c;revert f;revert e;revert O;revert R;revert Q;revert Y;exact VC.g):p:=h ⟨k⟩
theorem sI (k:q) (h:O0 q->p:=by
 intro VC;rintro n z ⟨rfl,v⟩;replace e:=aB v c e;replace f:=aB v d f;replace c:=ag v c;replace d:=ag v d;replace s:=ag v s;replace t:=ag v t;have A:=au l v;revert A;revert t;revert s;revert d;revert c;revert f;revert e;revert v;revert z;exact VC.g):p:=h ⟨k⟩
theorem zm (k:q) (h:O0 q->p:=by
 intro VC;obtain⟨g,ZN⟩:∃g,q[e]? =Z g:=⟨q[e]'(by have:=Zo.o;omega),fV _⟩;have YN:=YO.o e g ZN;have ZX: wr.cell? (ad y e)=Z (aE (ai g)):=by have:=ZV.at.2.2.2.2 e _ YN;simpa using this
 have T:=ab ZN;have ZW:=ZO.o e g ZN;clear YN ZN;revert ZW;revert T;revert ZX;revert g;exact VC.g):p:=h ⟨k⟩
theorem sG (k:q) (h:O0 q->p:=by
 intro VC;obtain⟨_,u,s,v,f,k⟩:=w.o b q;have d:fu e g s c (aO a b):=js C H.o (D.o b (by rw[p.o];exact q)) K.o k.len;rw[f];revert d;revert k;revert u s v f;exact VC.g):p:=h ⟨k⟩
theorem sK (k:q) (h:O0 q->p:=by
 intro VC;have R:=ab (cV (B:=a.heap.size+1) (S.alloc E _) (by simp;omega) C (λ ZK G=>(N.block ZK G).1));revert R;exact VC.g):p:=h ⟨k⟩
theorem mZ (k:q) (h:O0 q->p:=by
 intro VC;refine(kp _ _ _ _ b _ S).mono ?_;rw[x];exact VC.g):p:=h ⟨k⟩
theorem yx (k:q) (h:O0 q->p:=by
 intro R;refine(Do e _ _ 5 _ [2,3,2,4,1] _ (ZK.on (az d _)) E (kH d _ 3 [2,3,2,4,1] d.heap.size 5 I ar I E) E E E).mono ?_;exact R.g):p:=h ⟨k⟩
theorem yL (k:q) (h:O0 q->p:=by
 intro VC;have s:U (gP f c a=fQ d a a.length):=by rw[U,<- A.o];unfold gP;rw[i];rfl
 obtain⟨ZU,ZT,ZX,ZW,ZG⟩:=jk i;obtain⟨X,ZS⟩:=Gn i;rw[A.o] at ZS;have O:=ab ZS;clear ZS;have p:=ab o.len;have N:U (∀b,b<e->b7 f (aO a b)=ae):= λ b ZV=>ZG b (by rw[p.o];exact ZV)
 clear ZG;have W:e<=8:=by have:=p.o;omega
 revert W;revert N;revert p;revert O;revert X;revert ZW;revert ZX;revert ZT;revert ZU;revert s;exact VC.g):p:=h ⟨k⟩
theorem pW (k:q) (h:O0 q->p:=by
 intro VC;refine iU ?_;intro S L;have D:ap b S:=by rw[<- L];exact aD
 have B:=jU (w:=b) L;revert B;revert D;revert L;revert S;exact VC.g):p:=h ⟨k⟩
theorem p9 (k:q) (h:O0 q->p:=by
 intro VC;have o:U (ai [111,117,116,101,114]=aN #[111,117,116,101,114]):=ab I;revert o;exact VC.g):p:=h ⟨k⟩
theorem pP (k:q) (h:O0 q->p:=by
 intro VC;refine(kv q 32 _ _ _ u.o E _ (k.below s)).mono ?_;exact VC.g):p:=h ⟨k⟩
theorem yu (k:q) (h:O0 q->p:=by
 intro VC;have K:b<=16:=E;have N:U (∀p,p<b->0<=O n p /\ O n p<=1000000):= λ p Zy=>ZH p (by rw[Q.o];exact Zy)
 have P:U (∀p,p<b->0<=O o p /\ O o p<=1000000):= λ p Zy=>ZG p (by rw[Z9.o];exact Zy)
 revert P;revert N;revert K;exact VC.g):p:=h ⟨k⟩
theorem s5 (k:q) (h:O0 q->p:=by
 intro VC;refine(dA _ _ _ _ _ _ (p.below v)).mono ?_;rw[o];rintro z w ⟨rfl,c⟩;have d:=au v c;replace j:=ag c j;replace k:=ag c k;revert k;revert j;revert d;revert c;revert w;exact VC.g):p:=h ⟨k⟩
theorem yK (k:q) (h:O0 q->p:=by
 intro l;have d:dt c a [97,99,116] b=(match bP b with | some g=>(if b7 a.s g&&decide (a.gg.length<8) then gh ⟨a.s,a.xs,a.t,a.ys,a.a,a.gg++[g]⟩ else cs a) | none=>cs a):=rfl;revert d;exact l.g):p:=h ⟨k⟩
theorem k2 (k:q) (h:O0 q->p:=by
 intro VC;rintro n Z7 ⟨⟨YS,rfl,B⟩,y⟩;obtain⟨H,Q,P,rfl,Z8⟩:=B.ints;revert Z8;revert y;revert B;revert Z7 H Q P;exact VC.g):p:=h ⟨k⟩
theorem s7 (k:q) (h:O0 q->p:=by
 intro VC;rw[ZB.o,Ze.o,Zf.o,Zg.o];refine(qh _ _ _ _ _ _ _ _ _ _ _ YK YJ).mono ?_;exact VC.g):p:=h ⟨k⟩
theorem yT (k:q) (h:O0 q->p:=by
 intro VC;rw[<- T.o];refine(EK e j _ W (k.below f)).mono ?_;rintro n J ⟨⟨ZZ,rfl,w⟩,P⟩;obtain⟨r,z,t,rfl,Z9⟩:=w.ints;have O:=b.desk.lt;have L:(aa r z t).ownBlock≠Z a:= λ n=>by have:=(w.block _ n).1;omega
 have D:=b.below P;have c:=D.desk;have N:=g.trans (bW.of_below P);clear P Z9;revert N;revert c;revert D;revert L;revert O;revert w;revert J r z t;exact VC.g):p:=h ⟨k⟩
theorem sO (k:q) (h:O0 q->p:=by
 intro Za;replace d:=d.span z E;replace b:=aA.row z b (λ ZX j=>by have:=dD j;omega);replace c:=c.trans z;have Z0:=z.size;revert Z0;revert c;revert b;revert d;exact Za.g):p:=h ⟨k⟩
theorem zb (k:q) (h:O0 q->p:=by
 intro VC;have C:U (ai (i++(Z1++[10]))=ai i++ai (Z1++[10])):=(dd _ _).symm;have D:(i++(Z1++[10])).length<=46100:=by simp;omega
 have Zz:¬9223372036854775807<(ai i).size +(ai (Z1++[10])).size:=by rw[bs,bs];simp;omega
 revert Zz;revert D;revert C;exact VC.g):p:=h ⟨k⟩
theorem s3 (k:q) (h:O0 q->p:=by
 intro g;have a:∀d:J,(ka 64 ((d:J):F))=kM 64 d:= λ d=>by rw[BitVec.ofInt_natCast]
 revert a;exact g.g):p:=h ⟨k⟩
theorem oo (k:q) (h:O0 q->p:=by
 intro VC;have X:(0:F)<=(n:F):=E;have Y:(n:F)<(g:F):=E;revert Y;revert X;exact VC.g):p:=h ⟨k⟩
theorem zt (k:q) (h:O0 q->p:=by
 intro VC;refine eq 6 (v:=?_) I p (λ e S=>?_) ?_;rotate_left
 ·obtain⟨L,N,O,P,Q,R⟩:=eJ q S;go_simp;first | done | rfl
 simp only[aT];exact VC.g):p:=h ⟨k⟩
theorem pR (k:q) (h:O0 q->p:=by
 intro VC;go_simp;have v:aA (b.heap.size+1) (b.heap.size+1+1) A Z4:=aA.of_below H;revert v;exact VC.g):p:=h ⟨k⟩
theorem s9 (k:q) (h:O0 q->p:=by
 intro VC;rw[ZP.o,ZA.o,ZB.o,ZD.o];refine(oy _ _ _ _ _ _ _ _ _ _ _ YR YQ).mono ?_;exact VC.g):p:=h ⟨k⟩
theorem mT (k:q) (h:O0 q->p:=by
 intro VC;refine e7 14 I ah a6 (λ k j=>?_);revert j;revert k;exact VC.g):p:=h ⟨k⟩
theorem m0 (k:q) (h:O0 q->p:=by
 intro VC;refine e7 10 I ah a6 (λ k j=>?_);revert j;revert k;exact VC.g):p:=h ⟨k⟩
theorem ko (k:q) (h:O0 q->p:=by
 intro VC;refine dn ?_;refine dg ?_;intro C p;revert p;revert C;exact VC.g):p:=h ⟨k⟩
theorem s2 (k:q) (h:O0 q->p:=by
 intro VC;refine(na _ _ _ _ _ _ _ b y _ (Y.below ZJ) (Z4.below ZJ)).mono ?_;rw[Z7];exact VC.g):p:=h ⟨k⟩
theorem sS (k:q) (h:O0 q->p:=by
 intro VC;refine(oD _ _ _ E E E E E).mono ?_;exact VC.g):p:=h ⟨k⟩
theorem sT (k:q) (h:O0 q->p:=by
 intro VC;refine(mc _ _ _ E E E E E).mono ?_;exact VC.g):p:=h ⟨k⟩
theorem p3 (k:q) (h:O0 q->p:=by
 intro VC;refine(oB g _ _ _ _ o _ (w.below l)).mono ?_;rw[y];exact VC.g):p:=h ⟨k⟩
theorem m8 (k:q) (h:O0 q->p:=by
 intro VC;have G:=b.below j;have K:=g.trans (bW.of_below j);revert K;revert G;exact VC.g):p:=h ⟨k⟩
theorem ou (k:q) (h:O0 q->p:=by
 intro VC;have K:=t.below k;replace N:=aB k D N;replace D:=ag k D;revert D;revert N;revert K;exact VC.g):p:=h ⟨k⟩
theorem pY (k:q) (h:O0 q->p:=by
 intro VC;have T:j.heap.size<=d.heap.size:=by have:=C.size;simp at this;omega
 revert T;exact VC.g):p:=h ⟨k⟩
theorem yt (k:q) (h:O0 q->p:=by
 intro VC;intro A D;have j:ap b A:=by rw[<- D];exact aD
 have r:=jU (w:=b) D;clear D;have v:=r.z;have q:=ab (t.o (ha H b.heap.size (b.heap.size+1+1)) A _ (nA J j.size E) (W.enter j aZ));refine q.o.mono ?_;rintro Zq w ⟨⟨s,rfl,o⟩,k⟩;revert k;revert o;revert q;revert v;revert r;revert j;revert A w s;exact VC.g):p:=h ⟨k⟩
theorem yF (k:q) (h:O0 q->p:=by
 intro l;have d:dt c a [100,105,115,99,111,117,110,116] b=(match c.pf b with | some e=>bf a (cB a.s a.xs a.s (cX a.s (aH a.s-1)) e.1 e.2) | none=>cs a):=rfl;rw[d];revert d;exact l.g):p:=h ⟨k⟩
theorem pO (k:q) (h:O0 q->p:=by
 intro VC;refine(dA _ _ _ _ m _ (u.below aD)).mono ?_;rw[w];exact VC.g):p:=h ⟨k⟩
theorem yQ (k:q) (h:O0 q->p:=by
 intro VC;have O:U (∀c,aY prog 56 #[aE (ai p),aE (aN #[45])] c λ n ZP=>n=aV (aE (ai (iH p))) /\ c=ZP):= λ c=>Es p c E
 revert O;exact VC.g):p:=h ⟨k⟩
theorem zq (k:q) (h:O0 q->p:=by
 intro VC;have o:U (eb n (q.drop (e+1)) (e+1) (i++((gx n l g).1++[10])) (gx n l g).2=u):=by rw[U,<- HA n e i l T.o ZL.o E E];exact H.o
 revert o;exact VC.g):p:=h ⟨k⟩
theorem sZ (k:q) (h:O0 q->p:=by
 intro VC;have x:=eQ r c E e;have y:=eQ r d E f;have m:=cW r c E;have n:=cW r d E;revert n;revert m;revert y;revert x;exact VC.g):p:=h ⟨k⟩
theorem yY (k:q) (h:O0 q->p:=by
 intro VC;have d:Below e wr (dH wr):=(bI wr).mono E;have c:(dH wr).cell? (ad e 1)=Z (aa q i r) /\ (dH wr).frozen? (ad e 1)=ak:=⟨L,Z3⟩;revert c;revert d;exact VC.g):p:=h ⟨k⟩
theorem sU (k:q) (h:O0 q->p:=by
 intro VC;refine j _ _ (d.trans (zu _ _ _ _ _ _)) (λ a=>bC a aX) ?_;exact VC.g):p:=h ⟨k⟩
theorem pV (k:q) (h:O0 q->p:=by
 intro Z7;have q:a≠f:=by rintro rfl;have:=s.o;rw[d] at this;cases this
 revert q;exact Z7.g):p:=h ⟨k⟩
theorem yw (k:q) (h:O0 q->p:=by
 intro VC;obtain⟨Z5,ZH⟩:∃Zs,ZJ.alloc (al #[M a,aa J R Q] 29)=Zs:=⟨_,I⟩;rw[ZH];have X:ap ZJ Z5:=by rw[<- ZH];exact az _ _
 clear ZH;have W:=q.below X;have Z9:=au T X;revert Z9;revert W;revert X;revert Z5;exact VC.g):p:=h ⟨k⟩
theorem y7 (k:q) (h:O0 q->p:=by
 intro R;replace a:=(aA.of_below (az d _)).trans a;have w:=a.size;revert w;revert a;exact R.g):p:=h ⟨k⟩
theorem pU (k:q) (h:O0 q->p:=by
 intro S;refine(kp _ _ _ _ _ _ (q.below (az e _))).mono ?_;exact S.g):p:=h ⟨k⟩
theorem DK (k:q) (h:O0 q->p:=by
 intro e;refine cu (eG a (uh (l8 _ _ _ a.gl).1 (l8 _ _ _ a.gl).2)) ?_;refine cu (eG a (uh (l8 _ _ _ a.gl).1 (l8 _ _ _ a.gl).2)) ?_;exact e.g):p:=h ⟨k⟩
theorem m6 (k:q) (h:O0 q->p:=by
 intro VC;have ZP:a.heap.size+1+1<u.heap.size:=b6 c;revert ZP;exact VC.g):p:=h ⟨k⟩
theorem zc (k:q) (h:O0 q->p:=by
 intro l;have d:dt c a [111,117,116,101,114] b=(match bP b with | some g=>(match dN a.s a.xs g with | some b=>(b2 b,a) | none=>cs a) | none=>cs a):=rfl;revert d;exact l.g):p:=h ⟨k⟩
theorem od (k:q) (h:O0 q->p:=by
 intro VC;refine(Y.o _ (K.below C)).mono ?_;exact VC.g):p:=h ⟨k⟩
theorem td (k:q) (h:O0 q->p:=by
 intro VC;have S:=dL m E c;have T:=dL m E d;have V:=q6 m E e;have W:=q6 m E f;revert W;revert V;revert T;revert S;exact VC.g):p:=h ⟨k⟩
theorem yP (k:q) (h:O0 q->p:=by
 intro VC;have V:=eP (B:=b.heap.size+1) F E (M a.s) (aa c d f) (M a.t) (aa i g l) (M a.a) (aa m a.gg.length n);revert V;exact VC.g):p:=h ⟨k⟩
theorem zr (k:q) (h:O0 q->p:=by
 intro VC;have V:=eP (B:=b.heap.size+1) H E (M a.s) (aa c d f) (M a.t) (aa i g l) (M a.a) (aa m a.gg.length n);revert V;exact VC.g):p:=h ⟨k⟩
theorem zk (k:q) (h:O0 q->p:=by
 intro VC;have V:=eP (B:=b.heap.size+1) W E (M a.s) (aa c d f) (M a.t) (aa i g l) (M a.a) (aa m a.gg.length n);revert V;exact VC.g):p:=h ⟨k⟩
theorem yr (k:q) (h:O0 q->p:=by
 intro Y;have p:=qOp_put q (u a e q c v D) (n2 x b Z9 · · l) (n2 x a e · · q) j (f.2 a (ke d c)).2;revert p;exact Y.g):p:=h ⟨k⟩
theorem yM (k:q) (h:O0 q->p:=by
 intro VC;rw[N.o];have L:U (∀u,u<m->0<=O j u /\ O j u<=1000000):= λ u D=>S u E
 have P:m<=16:=E;have T:1<=m:=E;have y:U ((bF (λ p=>n&&&p) j m m).length=m):=jV _ _ _ _;revert y;revert T;revert P;revert L;exact VC.g):p:=h ⟨k⟩
theorem zo (k:q) (h:O0 q->p:=by
 intro VC;have z:b<q.length:=by rw[B.o];exact Z0
 have N:=V.o (O q b) (by rw[cK _ _ z];exact List.getElem_mem _);obtain⟨j,v⟩:∃j:J,O q b=(j:F):=⟨(O q b).toNat,E⟩;revert v;revert N;revert z;revert j;exact VC.g):p:=h ⟨k⟩
theorem qc (k:q) (h:O0 q->p:=by
 intro VC;go_simp;refine(Z5.o _ _ _ _ (ZY.below L)).mono ?_;exact VC.g):p:=h ⟨k⟩
theorem sQ (k:q) (h:O0 q->p:=by
 intro VC;refine dn ?_;refine dg ?_;intro ZW u;replace Z9:=ag u Z9;replace N:=ag u N;have r:=Z3.trans (u.mono Z3.size);revert r;revert N;revert Z9;revert u;revert ZW;exact VC.g):p:=h ⟨k⟩
theorem zd (k:q) (h:O0 q->p:=by
 intro l;have d:dt c a [114,101,108,105,97,98,108,101] b=(match c.pf b with | some e=>bf a (cB a.s a.xs a.s (dv a.xs) e.1 e.2) | none=>cs a):=rfl;rw[d];revert d;exact l.g):p:=h ⟨k⟩
theorem yR (k:q) (h:O0 q->p:=by
 intro VC;obtain⟨ZJ,G⟩:∃ZJ,fc (ce a.s a.xs a.gg) (λ ZJ=> -(bS 1000 a.xs (ca (aO a.gg ZJ) (aO a.gg ZJ).length) a.xs.length)) a.gg.length=ZJ:=⟨_,I⟩;revert G;revert ZJ;exact VC.g):p:=h ⟨k⟩
theorem sF (k:q) (h:O0 q->p:=by
 intro VC;refine(kC w Q.1 Q.2 _ (k.below D).pow).mono ?_;rw[P.o];exact VC.g):p:=h ⟨k⟩
theorem y3 (k:q) (h:O0 q->p:=by
 intro VC;refine j.go _ _ B ?_;refine jx 11 (v:=?_) I B (λ b f=>?_) ?_;rotate_left
 ·go_simp;first | done | rfl
 simp only[aT];exact VC.g):p:=h ⟨k⟩
theorem yC (k:q) (h:O0 q->p:=by
 intro r;have o:=gO e E;have k:=ab (mo (b5 d c a) e E E);have i:U (b5 d c (a+1)=if bZ d a then b5 d c a|||2^e else b5 d c a):=by rw[<- l.o];rfl
 revert i;revert k;revert o;exact r.g):p:=h ⟨k⟩
theorem yJ (k:q) (h:O0 q->p:=by
 intro VC;have Zz:(b:F)<(K:F):=E;have Z6:=N.grown r (by intro i;injection i with i;omega);obtain⟨q,H⟩:∃q,ZV[b]? =Z q:=⟨ZV[b]'(by have:=ZD.o;omega),fV _⟩;revert H;revert Z6;revert Zz;revert q;exact VC.g):p:=h ⟨k⟩
theorem om (k:q) (h:O0 q->p:=by
 intro VC;refine e7 11 I ah a6 (λ k j=>?_);revert j;revert k;exact VC.g):p:=h ⟨k⟩
theorem qf (k:q) (h:O0 q->p:=by
 intro VC;refine(cn _ _ _ _ m _ (u.below aD)).mono ?_;exact VC.g):p:=h ⟨k⟩
theorem p8 (k:q) (h:O0 q->p:=by
 intro VC;have B:(ai ([]:ax)).toList.isEmpty=ae:=kr [] ae I;revert B;exact VC.g):p:=h ⟨k⟩
theorem kl (k:q) (h:O0 q->p:=by
 intro VC;have q:=B.below K;have T:=au D K;revert T;revert q;exact VC.g):p:=h ⟨k⟩
theorem yS (k:q) (h:O0 q->p:=by
 intro VC;have v:U (∀w,w<b->0<=O (el i g b b) w /\ O (el i g b b) w<=4000000000000000000):= λ w Zl=>by have:=GW (a:=g) Z0.o b aZ w;omega
 revert v;exact VC.g):p:=h ⟨k⟩
theorem yB (k:q) (h:O0 q->p:=by
 intro VC;have r:U (∀c,aC 241 #[aw e] c (aE (ai (iE e)))):= λ c=>Ex e c
 revert r;exact VC.g):p:=h ⟨k⟩
theorem oi (k:q) (h:O0 q->p:=by
 intro VC;refine e7 8 I ah a6 (λ k j=>?_);revert j;revert k;exact VC.g):p:=h ⟨k⟩
theorem ji (k:q) (h:O0 q->p:=by
 intro VC;intro q Z1 A y B a m l k x s d;have u:=ab Z1;have v:=s.size;clear Z1;revert v;revert u;revert d;revert s;revert x;revert k;revert A;revert q y B a m l;exact VC.g):p:=h ⟨k⟩
theorem yI (k:q) (h:O0 q->p:=by
 intro VC;have r:U (ij g n q o=bh g ((bN (λ w x=>w&&&x) n o b b b).set 0 0)):=by rw[U];unfold ij;rw[B,Q.o,Z9.o];rfl
 rw[r.o];revert r;exact VC.g):p:=h ⟨k⟩
theorem yH (k:q) (h:O0 q->p:=by
 intro VC;have G:aA a (a+1) J K:=by rw[<- H];exact(aA.set (by show a<=a /\ a<a+1;omega)).trans (aA.set (by show a<=a /\ a<a+1;omega))
 revert G;exact VC.g):p:=h ⟨k⟩
theorem zj (k:q) (h:O0 q->p:=by
 intro VC;refine e7 17 I ah a6 (λ k j=>?_);go_simp;refine j _ _ (d.setCell (show e<=e from bL _) _) (λ a=>bC a aX) ?_;revert j;revert k;exact VC.g):p:=h ⟨k⟩
theorem y6 (k:q) (h:O0 q->p:=by
 intro VC;refine bR 4 I (λ k j=>?_);go_simp;refine(ZV.o _).mono ?_;rintro H ZT ⟨rfl,r⟩;have F:=au ZU r;go_simp;have v:aA (b.heap.size+1) (b.heap.size+1+1) C ZT:=aA.of_below F;revert v;revert F;revert r;revert j;revert k ZT;exact VC.g):p:=h ⟨k⟩
theorem sW (k:q) (h:O0 q->p:=by
 intro VC;go_simp;have v:aA (b.heap.size+1) (b.heap.size+1+1) C ZO:=aA.of_below T;revert v;exact VC.g):p:=h ⟨k⟩
theorem sP (k:q) (h:O0 q->p:=by
 intro VC;go_simp;have v:aA (b.heap.size+1) (b.heap.size+1+1) A Z3:=aA.of_below Z8;revert v;exact VC.g):p:=h ⟨k⟩
end Go.Proofs.YtkjnhlpccgjfhaaGreatDoor
