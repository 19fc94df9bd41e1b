/- Part of a proof. -/
import Derived.Test.YtkkddfebhbcdjaaGreatDoorSC01
import Derived.Test.YtkkddfebhbcdjaaGreatDoorRows
import Derived.Outline
import Derived.Deep.Slices
set_option maxRecDepth 100000
set_option maxHeartbeats 8000000
section
namespace Go.Sc
open Go.ChangeShapes Go.WideShapes Go.ChangeAt Go.RowKit
section
variable {H:Type} {enc:TypeId × Value→H} {P:Program} {w:World} {base:Nat} {spare:Nat→Bool} {held:Bool}
theorem qd6 {w:World} {a:Addr} {v:Value} (h:w.cell? a=some v):a.spot=none∧a.block<w.heap.size:=by
 unfold World.cell? at h
 split at h
 ·rename_i c t fr hh;refine⟨?_,(Array.getElem?_eq_some_iff.1 hh).1⟩;cases hs:a.spot with
  | none=>rfl
  | some s=>simp[hs]at h
 all_goals cases h
theorem qsU {n:Int} (h:(Lit.int .i64 n).wf=true):qai n:=bounds_i64 h
theorem qo5 {t:TypeId} {fuel:Nat} {cs:List Value} {x:DataW H × List MemPlace} (ht:P.underlying t=some (.int .i64)) (h:DataW.trod enc P w base spare held fuel t cs=some x) : ∃ n:Int,cs=[Z n]∧qai n:=by
 obtain⟨n,h1,_,h2⟩:=DataW.trod_int ht h;exact⟨n,h1,qsU h2⟩
theorem qbt {α:Type} {E:El α} {t e:TypeId} {m:Nat} {fuel:Nat} {cs:List Value} {x:DataW H × List MemPlace} (hm:0<m) (ht:P.underlying t=some (.slice e)) (hc:P.cellsOf e=m)
  (hE : ∀(n:Nat) (cs':List Value) (y:DataW H × List MemPlace),DataW.trod enc P w base spare held n e cs'=some y→∃ x:α,cs'=E.cells x∧E.ok w x)
  (h:DataW.trod enc P w base spare held fuel t cs=some x) : ∃ s:Sl α,cs=[s.v]∧s.Ok E m w:=by
 rcases Deep.open_slice ht h with⟨rfl,_⟩|⟨a,len,cap,k,n,D,Pl,rfl,hb,hl,hcm,hk,_,hx⟩
 ·exact⟨⟨none,0,[]⟩,rfl,by simp,by simp,fun _=>rfl,fun k x h=>by simp at h⟩
 ·have hlk:len≤k:=by rw[hk];split <;> omega
  have each : ∀ i,i<len→∃ y:α,w.cells? base (a.add (i * P.cellsOf e)) (P.cellsOf e)=some (E.cells y)∧E.ok w y:=fun i hi=>by
   obtain⟨cs',h1,h2⟩:=hx i (by omega);obtain⟨y,rfl,hy⟩:=hE _ _ _ h2;exact⟨y,h1,hy⟩
  have build : ∀ j,j≤len→∃ xs:List α,xs.length=j∧∀(i:Nat) (y:α),xs[i]? = some y→w.cells? base (a.add (i * P.cellsOf e)) (P.cellsOf e)=some (E.cells y)∧E.ok w y:=by
   intro j
   induction j with
   | zero=>exact fun _=>⟨[],rfl,fun i y h=>by simp at h⟩
   | succ j ih =>
    intro hj;obtain⟨xs,h1,h2⟩:=ih (by omega);obtain⟨y,hy⟩:=each j (by omega);refine⟨xs ++ [y],by simp[h1],fun i z hz=>?_⟩;by_cases hi:i<xs.length
    ·rw[List.getElem?_append_left hi]at hz;exact h2 i z hz
    ·rw[List.getElem?_append_right (by omega)]at hz;have hi0:i - xs.length=0:=by
      have:=(List.getElem?_eq_some_iff.1 hz).1;simp at this;omega
     rw[hi0]at hz;simp at hz;subst hz;have:i=j:=by omega
     subst this;exact hy
  obtain⟨xs,hxl,hxs⟩:=build len (Nat.le_refl _);unfold maxLen at hcm;subst hxl;refine⟨⟨some a,cap,xs⟩,rfl,hl,hcm,(fun h=>by cases h),fun i y hy=>?_⟩;simp only at hy;obtain⟨h1,h2⟩:=hxs i y hy;obtain⟨_,h3,h4⟩:=World.cells?_some h1;rw[hc]at h3 h4;have hc0:w.cell? ((a.add (i * m)).add 0)=(E.cells y)[0]?:=h4 0 hm;have hs0 : ∃ v,(E.cells y)[0]? = some v:=getElem?_of_lt (by omega);obtain⟨v0,hv0⟩:=hs0;rw[hv0]at hc0;obtain⟨q1,q2⟩:=qd6 hc0;have hsp:a.spot=none:=by
   have hi:i<xs.length:=(List.getElem?_eq_some_iff.1 hy).1;obtain⟨z,hz⟩:=getElem?_of_lt (show 0<xs.length by omega);obtain⟨g1,_⟩:=hxs 0 z hz;obtain⟨_,g3,g4⟩:=World.cells?_some g1;rw[hc]at g3 g4;have gc0:=g4 0 hm;obtain⟨u0,hu0⟩:=getElem?_of_lt (show 0<(E.cells z).length by omega);rw[hu0]at gc0;have:=(qd6 gc0).1
   simpa [Addr.add] using this
  obtain⟨b,off,sp⟩:=a;simp only at hsp;subst hsp;refine⟨h2,b,off,rfl,?_,fun j v hv=>?_⟩
  ·have e:((⟨b,off,none⟩:Addr).add (i * m)).add 0=⟨b,off+i * m,none⟩:=by unfold Addr.add;split <;> simp_all
   rw[e]at q2;exact q2
  ·have hj:j<m:=by have:=(List.getElem?_eq_some_iff.1 hv).1;omega
   have:=h4 j hj;rw[hv]at this;have e:((⟨b,off,none⟩:Addr).add (i * m)).add j=⟨b,off+i * m+j,none⟩:=by
    unfold Addr.add
    split <;> split <;> simp_all
   rw[e]at this;exact this
end
end Go.Sc
end
section
namespace Go.Proofs.YtkkddfebhbcdjaaGreatDoor
open Go.ChangeShapes Go.WideShapes Go.ChangeAt Go.RowKit Go.Sc
section
variable {H:Type} {enc:TypeId × Value→H} {w:World} {base:Nat} {spare:Nat→Bool} {held:Bool} {n:Nat} {cs:List Value} {y:DataW H × List MemPlace}
theorem qo1:Tryz.prog.cellsOf 3=1:=by kernel_rfl
theorem qtA:Tryz.prog.cellsOf 4=1:=by kernel_rfl
theorem cRf:Tryz.prog.cellsOf 44=2:=by kernel_rfl
theorem cTy:Tryz.prog.cellsOf 46=3:=by kernel_rfl
theorem cIn:Tryz.prog.cellsOf 60=4:=by kernel_rfl
theorem cHd:Tryz.prog.cellsOf 64=4:=by kernel_rfl
theorem cIm:Tryz.prog.cellsOf 125=3:=by kernel_rfl
theorem cIp:Tryz.prog.cellsOf 114=3:=by kernel_rfl
theorem cAp:Tryz.prog.cellsOf 136=3:=by kernel_rfl
theorem cCl:Tryz.prog.cellsOf 120=7:=by kernel_rfl
theorem cMe:Tryz.prog.cellsOf 50=11:=by kernel_rfl
theorem cPk:Tryz.prog.cellsOf 41=8:=by kernel_rfl
theorem cU8:Tryz.prog.cellsOf 5=1:=by kernel_rfl
theorem cBs:Tryz.prog.cellsOf 34=1:=by kernel_rfl
theorem c23:Tryz.prog.cellsOf 35=1:=by kernel_rfl
theorem c24:Tryz.prog.cellsOf 36=1:=by kernel_rfl
theorem c25:Tryz.prog.cellsOf 37=1:=by kernel_rfl
theorem c26:Tryz.prog.cellsOf 38=1:=by kernel_rfl
theorem c27:Tryz.prog.cellsOf 39=1:=by kernel_rfl
theorem c45:Tryz.prog.cellsOf 117=1:=by kernel_rfl
theorem c46:Tryz.prog.cellsOf 61=1:=by kernel_rfl
theorem c47:Tryz.prog.cellsOf 118=1:=by kernel_rfl
theorem c52:Tryz.prog.cellsOf 47=1:=by kernel_rfl
theorem c53:Tryz.prog.cellsOf 48=1:=by kernel_rfl
theorem qaC (h:DataW.trod enc Tryz.prog w base spare held n 3 cs=some y) : ∃ x:Int,cs=[Z x]∧qai x:=qo5 Tryz.underlying3 h
theorem qor (h:DataW.trod enc Tryz.prog w base spare held n 5 cs=some y) : ∃ x:Int,cs=qf4.cells x∧qf4.ok w x:=by
 obtain⟨x,h1,_,h2⟩:=DataW.trod_int Tryz.underlying5 h;refine⟨x,h1,?_⟩;simp[Lit.wf,IntKind.min,IntKind.max,IntKind.signed,IntKind.bits]at h2;exact⟨by omega,by omega⟩
theorem qgj (h:DataW.trod enc Tryz.prog w base spare held n 34 cs=some y) : ∃ s:Sl Int,cs=[s.v]∧qaX w s :=
 qbt (by omega) Tryz.underlying34 cU8 (fun _ _ _=>qor) h
theorem qgh (h:DataW.trod enc Tryz.prog w base spare held n 61 cs=some y) : ∃ s:Sl Int,cs=[s.v]∧qqX w s :=
 qbt (by omega) Tryz.underlying61 qo1 (fun _ _ _ h=>qaC h) h
theorem qg5 (h:DataW.trod enc Tryz.prog w base spare held n 44 cs=some y) : ∃ r:Rf,cs=eRf.cells r∧eRf.ok w r:=by
 obtain⟨xs,m,_,_,hl,hlen,hf⟩:=DataW.trod_struct Tryz.underlying44 h;rw[cRf]at hl
 match cs,hl with
 | [c0,c1],_ =>
  match xs,hlen with
  | [x0,x1],_ =>
   have g0:=hf 0 _ rfl;have g1:=hf 1 _ rfl;simp[qo1]at g0 g1;obtain⟨a,e0,k0⟩:=qaC g0;obtain⟨b,e1,k1⟩:=qaC g1;simp at e0 e1;subst e0 e1;exact⟨⟨a,b⟩,rfl,k0,k1⟩
theorem qna (h:DataW.trod enc Tryz.prog w base spare held n 46 cs=some y) : ∃ r:Ty,cs=eTy.cells r∧eTy.ok w r:=by
 obtain⟨xs,m,_,_,hl,hlen,hf⟩:=DataW.trod_struct Tryz.underlying46 h;rw[cTy]at hl
 match cs,hl with
 | [c0,c1,c2],_ =>
  match xs,hlen with
  | [x0,x1],_ =>
   have g0:=hf 0 _ rfl;have g1:=hf 1 _ rfl;simp[qo1,cRf]at g0 g1;obtain⟨a,e0,k0⟩:=qaC g0;obtain⟨r,e1,k1⟩:=qg5 g1;simp[eRf]at e0 e1;obtain⟨rfl,rfl⟩:=e1;subst e0;exact⟨⟨a,r⟩,rfl,k0,k1⟩
theorem qvq{p:Prop}(h:p:=by
 have g0:=hf 0 _ rfl;have g1:=hf 1 _ rfl;have g2:=hf 2 _ rfl;have g3:=hf 3 _ rfl;simp[qo1]at g0 g1 g2 g3;obtain⟨a,e0,k0⟩:=qaC g0;obtain⟨b,e1,k1⟩:=qaC g1;obtain⟨c,e2,k2⟩:=qaC g2;obtain⟨d,e3,k3⟩:=qaC g3;simp at e0 e1 e2 e3;subst e0 e1 e2 e3;exact⟨⟨a,b,c,d⟩,rfl,k0,k1,k2,k3⟩):p:=h
theorem qr4 (h:DataW.trod enc Tryz.prog w base spare held n 60 cs=some y) : ∃ r:In,cs=eIn.cells r∧eIn.ok w r:=by
 obtain⟨xs,m,_,_,hl,hlen,hf⟩:=DataW.trod_struct Tryz.underlying60 h;rw[cIn]at hl
 match cs,hl with
 | [c0,c1,c2,c3],_ =>
  match xs,hlen with
  | [x0,x1,x2,x3],_ =>
   exact qvq
theorem qrX (h:DataW.trod enc Tryz.prog w base spare held n 64 cs=some y) : ∃ r:Hd,cs=eHd.cells r∧eHd.ok w r:=by
 obtain⟨xs,m,_,_,hl,hlen,hf⟩:=DataW.trod_struct Tryz.underlying64 h;rw[cHd]at hl
 match cs,hl with
 | [c0,c1,c2,c3],_ =>
  match xs,hlen with
  | [x0,x1,x2,x3],_ =>
   exact qvq
theorem qqw (h:DataW.trod enc Tryz.prog w base spare held n 117 cs=some y) : ∃ s:Sl Rf,cs=[s.v]∧s.Ok eRf 2 w:=qbt (by omega) Tryz.underlying117 cRf (fun _ _ _=>qg5) h
theorem qgT (h:DataW.trod enc Tryz.prog w base spare held n 38 cs=some y) : ∃ s:Sl Ty,cs=[s.v]∧s.Ok eTy 3 w:=qbt (by omega) Tryz.underlying38 cTy (fun _ _ _=>qna) h
theorem qpi (h:DataW.trod enc Tryz.prog w base spare held n 47 cs=some y) : ∃ s:Sl In,cs=[s.v]∧s.Ok eIn 4 w:=qbt (by omega) Tryz.underlying47 cIn (fun _ _ _=>qr4) h
theorem qpt (h:DataW.trod enc Tryz.prog w base spare held n 48 cs=some y) : ∃ s:Sl Hd,cs=[s.v]∧s.Ok eHd 4 w:=qbt (by omega) Tryz.underlying48 cHd (fun _ _ _=>qrX) h
theorem qrL (h:DataW.trod enc Tryz.prog w base spare held n 125 cs=some y) : ∃ r:Im,cs=eIm.cells r∧eIm.ok w r:=by
 obtain⟨xs,m,_,_,hl,hlen,hf⟩:=DataW.trod_struct Tryz.underlying125 h;rw[cIm]at hl
 match cs,hl with
 | [c0,c1,c2],_ =>
  match xs,hlen with
  | [x0,x1],_ =>
   have g0:=hf 0 _ rfl;have g1:=hf 1 _ rfl;simp[c46,cRf]at g0 g1;obtain⟨r,e0,k0⟩:=qg5 g0;obtain⟨s,e1,k1⟩:=qgh g1;simp[eRf]at e0 e1;obtain⟨rfl,rfl⟩:=e0;subst e1;exact⟨⟨r,s⟩,rfl,k0.1,k0.2,k1⟩
theorem qpl (h:DataW.trod enc Tryz.prog w base spare held n 118 cs=some y) : ∃ s:Sl Im,cs=[s.v]∧s.Ok eIm 3 w:=qbt (by omega) Tryz.underlying118 cIm (fun _ _ _=>qrL) h
theorem qvw{p:Prop}(h:p:=by
 have g0:=hf 0 _ rfl;have g1:=hf 1 _ rfl;have g2:=hf 2 _ rfl;simp[cBs,qo1]at g0 g1 g2;obtain⟨s,e0,k0⟩:=qgj g0;obtain⟨a,e1,k1⟩:=qaC g1;obtain⟨b,e2,k2⟩:=qaC g2;simp at e0 e1 e2;subst e0 e1 e2;exact⟨⟨s,a,b⟩,rfl,k0,k1,k2⟩):p:=h
theorem qra (h:DataW.trod enc Tryz.prog w base spare held n 114 cs=some y) : ∃ r:Ip,cs=eIp.cells r∧eIp.ok w r:=by
 obtain⟨xs,m,_,_,hl,hlen,hf⟩:=DataW.trod_struct Tryz.underlying114 h;rw[cIp]at hl
 match cs,hl with
 | [c0,c1,c2],_ =>
  match xs,hlen with
  | [x0,x1,x2],_ =>
   exact qvw
theorem qro (h:DataW.trod enc Tryz.prog w base spare held n 136 cs=some y) : ∃ r:Ap,cs=eAp.cells r∧eAp.ok w r:=by
 obtain⟨xs,m,_,_,hl,hlen,hf⟩:=DataW.trod_struct Tryz.underlying136 h;rw[cAp]at hl
 match cs,hl with
 | [c0,c1,c2],_ =>
  match xs,hlen with
  | [x0,x1,x2],_ =>
   exact qvw
theorem qpQ (h:DataW.trod enc Tryz.prog w base spare held n 35 cs=some y) : ∃ s:Sl Ip,cs=[s.v]∧s.Ok eIp 3 w:=qbt (by omega) Tryz.underlying35 cIp (fun _ _ _=>qra) h
theorem qql (h:DataW.trod enc Tryz.prog w base spare held n 39 cs=some y) : ∃ s:Sl Ap,cs=[s.v]∧s.Ok eAp 3 w:=qbt (by omega) Tryz.underlying39 cAp (fun _ _ _=>qro) h
theorem qsq (h:DataW.trod enc Tryz.prog w base spare held n 120 cs=some y) : ∃ r:Cl,cs=eCl.cells r∧eCl.ok w r:=by
 obtain⟨xs,m,_,_,hl,hlen,hf⟩:=DataW.trod_struct Tryz.underlying120 h;rw[cCl]at hl
 match cs,hl with
 | [c0,c1,c2,c3,c4,c5,c6],_ =>
  match xs,hlen with
  | [x0,x1,x2,x3,x4,x5],_ =>
   have g0:=hf 0 _ rfl;have g1:=hf 1 _ rfl;have g2:=hf 2 _ rfl;have g3:=hf 3 _ rfl;have g4:=hf 4 _ rfl;have g5:=hf 5 _ rfl;simp[cRf,qtA,c45,c26,c46,c47]at g0 g1 g2 g3 g4 g5;obtain⟨r,e0,k0⟩:=qg5 g0;obtain⟨b,e1,_⟩:=DataW.trod_bool Tryz.underlying4 g1;obtain⟨s2,e2,k2⟩:=qqw g2;obtain⟨s3,e3,k3⟩:=qgT g3;obtain⟨s4,e4,k4⟩:=qgh g4;obtain⟨s5,e5,k5⟩:=qpl g5;simp[eRf]at e0 e1 e2 e3 e4 e5;obtain⟨rfl,rfl⟩:=e0;subst e1 e2 e3 e4 e5;exact⟨⟨r,b,s2,s3,s4,s5⟩,rfl,k0.1,k0.2,k2,k3,k4,k5⟩
theorem qq9 (h:DataW.trod enc Tryz.prog w base spare held n 50 cs=some y) : ∃ r:Me,cs=eMe.cells r∧eMe.ok w r:=by
 obtain⟨xs,m,_,_,hl,hlen,hf⟩:=DataW.trod_struct Tryz.underlying50 h;rw[cMe]at hl
 match cs,hl with
 | [c0,c1,c2,c3,c4,c5,c6,c7,c8,c9,c10],_ =>
  match xs,hlen with
  | [x0,x1,x2,x3,x4,x5,x6,x7,x8],_ =>
   have g0:=hf 0 _ rfl;have g1:=hf 1 _ rfl;have g2:=hf 2 _ rfl;have g3:=hf 3 _ rfl;have g4:=hf 4 _ rfl;have g5:=hf 5 _ rfl;have g6:=hf 6 _ rfl;have g7:=hf 7 _ rfl;have g8:=hf 8 _ rfl;simp[cTy,qtA,qo1,c26,c52,c53]at g0 g1 g2 g3 g4 g5 g6 g7 g8;obtain⟨b0,e0,_⟩:=DataW.trod_bool Tryz.underlying4 g0;obtain⟨b1,e1,_⟩:=DataW.trod_bool Tryz.underlying4 g1;obtain⟨z2,e2,k2⟩:=qaC g2;obtain⟨s3,e3,k3⟩:=qgT g3;obtain⟨t4,e4,k4⟩:=qna g4;obtain⟨z5,e5,k5⟩:=qaC g5;obtain⟨z6,e6,k6⟩:=qaC g6;obtain⟨s7,e7,k7⟩:=qpi g7;obtain⟨s8,e8,k8⟩:=qpt g8;simp[eTy]at e0 e1 e2 e3 e4 e5 e6 e7 e8;obtain⟨rfl,rfl,rfl⟩:=e4;subst e0 e1 e2 e3 e5 e6 e7 e8;exact⟨⟨b0,b1,z2,s3,t4,z5,z6,s7,s8⟩,rfl,k2,k3,k4,k5,k6,k7,k8⟩
theorem qqv (h:DataW.trod enc Tryz.prog w base spare held n 36 cs=some y) : ∃ s:Sl Cl,cs=[s.v]∧s.Ok eCl 7 w:=qbt (by omega) Tryz.underlying36 cCl (fun _ _ _=>qsq) h
theorem qpM (h:DataW.trod enc Tryz.prog w base spare held n 37 cs=some y) : ∃ s:Sl Me,cs=[s.v]∧s.Ok eMe 11 w:=qbt (by omega) Tryz.underlying37 cMe (fun _ _ _=>qq9) h
theorem qrv (h:DataW.trod enc Tryz.prog w base spare held n 41 cs=some y) : ∃ p:Pk,cs=[.slice p.aid.a p.aid.xs.length p.aid.c,Z p.major,Z p.minor,.slice p.imports.a p.imports.xs.length p.imports.c,.slice p.classes.a p.classes.xs.length p.classes.c,.slice p.methods.a p.methods.xs.length p.methods.c,.slice p.statics.a p.statics.xs.length p.statics.c,.slice p.applets.a p.applets.xs.length p.applets.c]∧p.Ok w:=by
 obtain⟨xs,m,_,_,hl,hlen,hf⟩:=DataW.trod_struct Tryz.underlying41 h;rw[cPk]at hl
 match cs,hl with
 | [c0,c1,c2,c3,c4,c5,c6,c7],_ =>
  match xs,hlen with
  | [x0,x1,x2,x3,x4,x5,x6,x7],_ =>
   have g0:=hf 0 _ rfl;have g1:=hf 1 _ rfl;have g2:=hf 2 _ rfl;have g3:=hf 3 _ rfl;have g4:=hf 4 _ rfl;have g5:=hf 5 _ rfl;have g6:=hf 6 _ rfl;have g7:=hf 7 _ rfl;simp[cBs,qo1,c23,c24,c25,c26,c27]at g0 g1 g2 g3 g4 g5 g6 g7;obtain⟨s0,e0,k0⟩:=qgj g0;obtain⟨z1,e1,k1⟩:=qaC g1;obtain⟨z2,e2,k2⟩:=qaC g2;obtain⟨s3,e3,k3⟩:=qpQ g3;obtain⟨s4,e4,k4⟩:=qqv g4;obtain⟨s5,e5,k5⟩:=qpM g5;obtain⟨s6,e6,k6⟩:=qgT g6;obtain⟨s7,e7,k7⟩:=qql g7;simp at e0 e1 e2 e3 e4 e5 e6 e7;subst e0 e1 e2 e3 e4 e5 e6 e7;exact⟨⟨s0,z1,z2,s3,s4,s5,s6,s7⟩,rfl,k0,k1,k2,k3,k4,k5,k6,k7⟩
end
end Go.Proofs.YtkkddfebhbcdjaaGreatDoor
end
