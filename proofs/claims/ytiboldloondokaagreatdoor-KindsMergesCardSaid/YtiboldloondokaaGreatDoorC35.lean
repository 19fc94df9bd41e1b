/- Part of a proof. -/
import Derived.Test.YtiboldloondokaaGreatDoorC01
import Derived.Test.YtiboldloondokaaGreatDoorRows
import Derived.Outline
import Derived.Deep.Slices
set_option maxRecDepth 100000
set_option maxHeartbeats 8000000
section
namespace Go.Sc
open Go.ChangeShapes Go.WideShapes Go.ChangeAt Go.RowKit
section
variable {H:Type} {enc:TypeId × Value→H} {P:Program} {w:World} {base:Nat} {spare:Nat→Bool} {held:Bool}
theorem cell_spot {w:World} {a:Addr} {v:Value} (h:w.cell? a=some v):a.spot=none∧a.block<w.heap.size:=by
 unfold World.cell? at h
 split at h
 ·rename_i c t fr hh
  refine⟨?_,(Array.getElem?_eq_some_iff.1 hh).1⟩
  cases hs:a.spot with
  | none=>rfl
  | some s=>simp[hs]at h
 all_goals cases h
theorem ok_i64 {n:Int} (h:(Lit.int .i64 n).wf=true):i64ok n:=bounds_i64 h
theorem open_i64 {t:TypeId} {fuel:Nat} {cs:List Value} {x:DataW H × List MemPlace} (ht:P.underlying t=some (.int .i64)) (h:DataW.trod enc P w base spare held fuel t cs=some x) : ∃ n:Int,cs=[.int .i64 n]∧i64ok n:=by
 obtain⟨n,h1,_,h2⟩:=DataW.trod_int ht h
 exact⟨n,h1,ok_i64 h2⟩
theorem open_slA {α:Type} {E:El α} {t e:TypeId} {m:Nat} {fuel:Nat} {cs:List Value} {x:DataW H × List MemPlace} (hm:0<m) (ht:P.underlying t=some (.slice e)) (hc:P.cellsOf e=m)
  (hE : ∀(n:Nat) (cs':List Value) (y:DataW H × List MemPlace),DataW.trod enc P w base spare held n e cs'=some y→∃ x:α,cs'=E.cells x∧E.ok w x)
  (h:DataW.trod enc P w base spare held fuel t cs=some x) : ∃ s:Sl α,cs=[s.v]∧s.Ok E m w:=by
 rcases Deep.open_slice ht h with⟨rfl,_⟩|⟨a,len,cap,k,n,D,Pl,rfl,hb,hl,hcm,hk,_,hx⟩
 ·exact⟨⟨none,0,[]⟩,rfl,by simp,by simp,fun _=>rfl,fun k x h=>by simp at h⟩
 ·have hlk:len≤k:=by rw[hk];split <;> omega
  have each : ∀ i,i<len→∃ y:α,w.cells? base (a.add (i * P.cellsOf e)) (P.cellsOf e)=some (E.cells y)∧E.ok w y:=fun i hi=>by
   obtain⟨cs',h1,h2⟩:=hx i (by omega)
   obtain⟨y,rfl,hy⟩:=hE _ _ _ h2
   exact⟨y,h1,hy⟩
  have build : ∀ j,j≤len→∃ xs:List α,xs.length=j∧∀(i:Nat) (y:α),xs[i]? = some y→w.cells? base (a.add (i * P.cellsOf e)) (P.cellsOf e)=some (E.cells y)∧E.ok w y:=by
   intro j
   induction j with
   | zero=>exact fun _=>⟨[],rfl,fun i y h=>by simp at h⟩
   | succ j ih =>
    intro hj
    obtain⟨xs,h1,h2⟩:=ih (by omega)
    obtain⟨y,hy⟩:=each j (by omega)
    refine⟨xs ++ [y],by simp[h1],fun i z hz=>?_⟩
    by_cases hi:i<xs.length
    ·rw[List.getElem?_append_left hi]at hz;exact h2 i z hz
    ·rw[List.getElem?_append_right (by omega)]at hz
     have hi0:i - xs.length=0:=by
      have:=(List.getElem?_eq_some_iff.1 hz).1
      simp at this;omega
     rw[hi0]at hz
     simp at hz
     subst hz
     have:i=j:=by omega
     subst this
     exact hy
  obtain⟨xs,hxl,hxs⟩:=build len (Nat.le_refl _)
  unfold maxLen at hcm
  subst hxl
  refine⟨⟨some a,cap,xs⟩,rfl,hl,hcm,(fun h=>by cases h),fun i y hy=>?_⟩
  simp only at hy
  obtain⟨h1,h2⟩:=hxs i y hy
  obtain⟨_,h3,h4⟩:=World.cells?_some h1
  rw[hc]at h3 h4
  have hc0:w.cell? ((a.add (i * m)).add 0)=(E.cells y)[0]?:=h4 0 hm
  have hs0 : ∃ v,(E.cells y)[0]? = some v:=getElem?_of_lt (by omega)
  obtain⟨v0,hv0⟩:=hs0
  rw[hv0]at hc0
  obtain⟨q1,q2⟩:=cell_spot hc0
  have hsp:a.spot=none:=by
   have hi:i<xs.length:=(List.getElem?_eq_some_iff.1 hy).1
   obtain⟨z,hz⟩:=getElem?_of_lt (show 0<xs.length by omega)
   obtain⟨g1,_⟩:=hxs 0 z hz
   obtain⟨_,g3,g4⟩:=World.cells?_some g1
   rw[hc]at g3 g4
   have gc0:=g4 0 hm
   obtain⟨u0,hu0⟩:=getElem?_of_lt (show 0<(E.cells z).length by omega)
   rw[hu0]at gc0
   have:=(cell_spot gc0).1
   simpa [Addr.add] using this
  obtain⟨b,off,sp⟩:=a
  simp only at hsp
  subst hsp
  refine⟨h2,b,off,rfl,?_,fun j v hv=>?_⟩
  ·have e:((⟨b,off,none⟩:Addr).add (i * m)).add 0=⟨b,off+i * m,none⟩:=by unfold Addr.add;split <;> simp_all
   rw[e]at q2
   exact q2
  ·have hj:j<m:=by have:=(List.getElem?_eq_some_iff.1 hv).1;omega
   have:=h4 j hj
   rw[hv]at this
   have e:((⟨b,off,none⟩:Addr).add (i * m)).add j=⟨b,off+i * m+j,none⟩:=by
    unfold Addr.add
    split <;> split <;> simp_all
   rw[e]at this
   exact this
end
end Go.Sc
end
section
namespace Go.Proofs.YtiboldloondokaaGreatDoor
open Go.ChangeShapes Go.WideShapes Go.ChangeAt Go.RowKit Go.Sc
section
variable {H:Type} {enc:TypeId × Value→H} {w:World} {base:Nat} {spare:Nat→Bool} {held:Bool} {n:Nat} {cs:List Value} {y:DataW H × List MemPlace}
theorem cInt:Tryz.prog.cellsOf 3=1:=by kernel_rfl
theorem cBool:Tryz.prog.cellsOf 4=1:=by kernel_rfl
theorem cRf:Tryz.prog.cellsOf 28=2:=by kernel_rfl
theorem cTy:Tryz.prog.cellsOf 38=3:=by kernel_rfl
theorem cIn:Tryz.prog.cellsOf 174=4:=by kernel_rfl
theorem cHd:Tryz.prog.cellsOf 177=4:=by kernel_rfl
theorem cIm:Tryz.prog.cellsOf 99=3:=by kernel_rfl
theorem cIp:Tryz.prog.cellsOf 68=3:=by kernel_rfl
theorem cAp:Tryz.prog.cellsOf 70=3:=by kernel_rfl
theorem cCl:Tryz.prog.cellsOf 56=7:=by kernel_rfl
theorem cMe:Tryz.prog.cellsOf 66=11:=by kernel_rfl
theorem cPk:Tryz.prog.cellsOf 52=8:=by kernel_rfl
theorem cU8:Tryz.prog.cellsOf 5=1:=by kernel_rfl
theorem cBs:Tryz.prog.cellsOf 46=1:=by kernel_rfl
theorem c23:Tryz.prog.cellsOf 47=1:=by kernel_rfl
theorem c24:Tryz.prog.cellsOf 48=1:=by kernel_rfl
theorem c25:Tryz.prog.cellsOf 49=1:=by kernel_rfl
theorem c26:Tryz.prog.cellsOf 33=1:=by kernel_rfl
theorem c27:Tryz.prog.cellsOf 50=1:=by kernel_rfl
theorem c45:Tryz.prog.cellsOf 30=1:=by kernel_rfl
theorem c46:Tryz.prog.cellsOf 53=1:=by kernel_rfl
theorem c47:Tryz.prog.cellsOf 54=1:=by kernel_rfl
theorem c52:Tryz.prog.cellsOf 63=1:=by kernel_rfl
theorem c53:Tryz.prog.cellsOf 64=1:=by kernel_rfl
theorem open_int' (h:DataW.trod enc Tryz.prog w base spare held n 3 cs=some y) : ∃ x:Int,cs=[.int .i64 x]∧i64ok x:=open_i64 Tryz.underlying3 h
theorem open_byte (h:DataW.trod enc Tryz.prog w base spare held n 5 cs=some y) : ∃ x:Int,cs=eByte.cells x∧eByte.ok w x:=by
 obtain⟨x,h1,_,h2⟩:=DataW.trod_int Tryz.underlying5 h
 refine⟨x,h1,?_⟩
 simp[Lit.wf,IntKind.min,IntKind.max,IntKind.signed,IntKind.bits]at h2
 exact⟨by omega,by omega⟩
theorem open_bytes (h:DataW.trod enc Tryz.prog w base spare held n 46 cs=some y) : ∃ s:Sl Int,cs=[s.v]∧Bytes w s :=
 open_slA (by omega) Tryz.underlying46 cU8 (fun _ _ _=>open_byte) h
theorem open_ints' (h:DataW.trod enc Tryz.prog w base spare held n 53 cs=some y) : ∃ s:Sl Int,cs=[s.v]∧Ints w s :=
 open_slA (by omega) Tryz.underlying53 cInt (fun _ _ _ h=>open_int' h) h
theorem open_rf (h:DataW.trod enc Tryz.prog w base spare held n 28 cs=some y) : ∃ r:Rf,cs=eRf.cells r∧eRf.ok w r:=by
 obtain⟨xs,m,_,_,hl,hlen,hf⟩:=DataW.trod_struct Tryz.underlying28 h
 rw[cRf]at hl
 match cs,hl with
 | [c0,c1],_ =>
  match xs,hlen with
  | [x0,x1],_ =>
   have g0:=hf 0 _ rfl
   have g1:=hf 1 _ rfl
   simp[cInt]at g0 g1
   obtain⟨a,e0,k0⟩:=open_int' g0
   obtain⟨b,e1,k1⟩:=open_int' g1
   simp at e0 e1
   subst e0 e1
   exact⟨⟨a,b⟩,rfl,k0,k1⟩
theorem open_ty (h:DataW.trod enc Tryz.prog w base spare held n 38 cs=some y) : ∃ r:Ty,cs=eTy.cells r∧eTy.ok w r:=by
 obtain⟨xs,m,_,_,hl,hlen,hf⟩:=DataW.trod_struct Tryz.underlying38 h
 rw[cTy]at hl
 match cs,hl with
 | [c0,c1,c2],_ =>
  match xs,hlen with
  | [x0,x1],_ =>
   have g0:=hf 0 _ rfl
   have g1:=hf 1 _ rfl
   simp[cInt,cRf]at g0 g1
   obtain⟨a,e0,k0⟩:=open_int' g0
   obtain⟨r,e1,k1⟩:=open_rf g1
   simp[eRf]at e0 e1
   obtain⟨rfl,rfl⟩:=e1
   subst e0
   exact⟨⟨a,r⟩,rfl,k0,k1⟩
theorem open_in (h:DataW.trod enc Tryz.prog w base spare held n 174 cs=some y) : ∃ r:In,cs=eIn.cells r∧eIn.ok w r:=by
 obtain⟨xs,m,_,_,hl,hlen,hf⟩:=DataW.trod_struct Tryz.underlying174 h
 rw[cIn]at hl
 match cs,hl with
 | [c0,c1,c2,c3],_ =>
  match xs,hlen with
  | [x0,x1,x2,x3],_ =>
   have g0:=hf 0 _ rfl
   have g1:=hf 1 _ rfl
   have g2:=hf 2 _ rfl
   have g3:=hf 3 _ rfl
   simp[cInt]at g0 g1 g2 g3
   obtain⟨a,e0,k0⟩:=open_int' g0
   obtain⟨b,e1,k1⟩:=open_int' g1
   obtain⟨c,e2,k2⟩:=open_int' g2
   obtain⟨d,e3,k3⟩:=open_int' g3
   simp at e0 e1 e2 e3
   subst e0 e1 e2 e3
   exact⟨⟨a,b,c,d⟩,rfl,k0,k1,k2,k3⟩
theorem open_hd (h:DataW.trod enc Tryz.prog w base spare held n 177 cs=some y) : ∃ r:Hd,cs=eHd.cells r∧eHd.ok w r:=by
 obtain⟨xs,m,_,_,hl,hlen,hf⟩:=DataW.trod_struct Tryz.underlying177 h
 rw[cHd]at hl
 match cs,hl with
 | [c0,c1,c2,c3],_ =>
  match xs,hlen with
  | [x0,x1,x2,x3],_ =>
   have g0:=hf 0 _ rfl
   have g1:=hf 1 _ rfl
   have g2:=hf 2 _ rfl
   have g3:=hf 3 _ rfl
   simp[cInt]at g0 g1 g2 g3
   obtain⟨a,e0,k0⟩:=open_int' g0
   obtain⟨b,e1,k1⟩:=open_int' g1
   obtain⟨c,e2,k2⟩:=open_int' g2
   obtain⟨d,e3,k3⟩:=open_int' g3
   simp at e0 e1 e2 e3
   subst e0 e1 e2 e3
   exact⟨⟨a,b,c,d⟩,rfl,k0,k1,k2,k3⟩
theorem open_rfs (h:DataW.trod enc Tryz.prog w base spare held n 30 cs=some y) : ∃ s:Sl Rf,cs=[s.v]∧s.Ok eRf 2 w:=open_slA (by omega) Tryz.underlying30 cRf (fun _ _ _=>open_rf) h
theorem open_tys (h:DataW.trod enc Tryz.prog w base spare held n 33 cs=some y) : ∃ s:Sl Ty,cs=[s.v]∧s.Ok eTy 3 w:=open_slA (by omega) Tryz.underlying33 cTy (fun _ _ _=>open_ty) h
theorem open_ins (h:DataW.trod enc Tryz.prog w base spare held n 63 cs=some y) : ∃ s:Sl In,cs=[s.v]∧s.Ok eIn 4 w:=open_slA (by omega) Tryz.underlying63 cIn (fun _ _ _=>open_in) h
theorem open_hds (h:DataW.trod enc Tryz.prog w base spare held n 64 cs=some y) : ∃ s:Sl Hd,cs=[s.v]∧s.Ok eHd 4 w:=open_slA (by omega) Tryz.underlying64 cHd (fun _ _ _=>open_hd) h
theorem open_im (h:DataW.trod enc Tryz.prog w base spare held n 99 cs=some y) : ∃ r:Im,cs=eIm.cells r∧eIm.ok w r:=by
 obtain⟨xs,m,_,_,hl,hlen,hf⟩:=DataW.trod_struct Tryz.underlying99 h
 rw[cIm]at hl
 match cs,hl with
 | [c0,c1,c2],_ =>
  match xs,hlen with
  | [x0,x1],_ =>
   have g0:=hf 0 _ rfl
   have g1:=hf 1 _ rfl
   simp[c46,cRf]at g0 g1
   obtain⟨r,e0,k0⟩:=open_rf g0
   obtain⟨s,e1,k1⟩:=open_ints' g1
   simp[eRf]at e0 e1
   obtain⟨rfl,rfl⟩:=e0
   subst e1
   exact⟨⟨r,s⟩,rfl,k0.1,k0.2,k1⟩
theorem open_ims (h:DataW.trod enc Tryz.prog w base spare held n 54 cs=some y) : ∃ s:Sl Im,cs=[s.v]∧s.Ok eIm 3 w:=open_slA (by omega) Tryz.underlying54 cIm (fun _ _ _=>open_im) h
theorem open_ip (h:DataW.trod enc Tryz.prog w base spare held n 68 cs=some y) : ∃ r:Ip,cs=eIp.cells r∧eIp.ok w r:=by
 obtain⟨xs,m,_,_,hl,hlen,hf⟩:=DataW.trod_struct Tryz.underlying68 h
 rw[cIp]at hl
 match cs,hl with
 | [c0,c1,c2],_ =>
  match xs,hlen with
  | [x0,x1,x2],_ =>
   have g0:=hf 0 _ rfl
   have g1:=hf 1 _ rfl
   have g2:=hf 2 _ rfl
   simp[cBs,cInt]at g0 g1 g2
   obtain⟨s,e0,k0⟩:=open_bytes g0
   obtain⟨a,e1,k1⟩:=open_int' g1
   obtain⟨b,e2,k2⟩:=open_int' g2
   simp at e0 e1 e2
   subst e0 e1 e2
   exact⟨⟨s,a,b⟩,rfl,k0,k1,k2⟩
theorem open_ap (h:DataW.trod enc Tryz.prog w base spare held n 70 cs=some y) : ∃ r:Ap,cs=eAp.cells r∧eAp.ok w r:=by
 obtain⟨xs,m,_,_,hl,hlen,hf⟩:=DataW.trod_struct Tryz.underlying70 h
 rw[cAp]at hl
 match cs,hl with
 | [c0,c1,c2],_ =>
  match xs,hlen with
  | [x0,x1,x2],_ =>
   have g0:=hf 0 _ rfl
   have g1:=hf 1 _ rfl
   have g2:=hf 2 _ rfl
   simp[cBs,cInt]at g0 g1 g2
   obtain⟨s,e0,k0⟩:=open_bytes g0
   obtain⟨a,e1,k1⟩:=open_int' g1
   obtain⟨b,e2,k2⟩:=open_int' g2
   simp at e0 e1 e2
   subst e0 e1 e2
   exact⟨⟨s,a,b⟩,rfl,k0,k1,k2⟩
theorem open_ips (h:DataW.trod enc Tryz.prog w base spare held n 47 cs=some y) : ∃ s:Sl Ip,cs=[s.v]∧s.Ok eIp 3 w:=open_slA (by omega) Tryz.underlying47 cIp (fun _ _ _=>open_ip) h
theorem open_aps (h:DataW.trod enc Tryz.prog w base spare held n 50 cs=some y) : ∃ s:Sl Ap,cs=[s.v]∧s.Ok eAp 3 w:=open_slA (by omega) Tryz.underlying50 cAp (fun _ _ _=>open_ap) h
theorem open_cl (h:DataW.trod enc Tryz.prog w base spare held n 56 cs=some y) : ∃ r:Cl,cs=eCl.cells r∧eCl.ok w r:=by
 obtain⟨xs,m,_,_,hl,hlen,hf⟩:=DataW.trod_struct Tryz.underlying56 h
 rw[cCl]at hl
 match cs,hl with
 | [c0,c1,c2,c3,c4,c5,c6],_ =>
  match xs,hlen with
  | [x0,x1,x2,x3,x4,x5],_ =>
   have g0:=hf 0 _ rfl
   have g1:=hf 1 _ rfl
   have g2:=hf 2 _ rfl
   have g3:=hf 3 _ rfl
   have g4:=hf 4 _ rfl
   have g5:=hf 5 _ rfl
   simp[cRf,cBool,c45,c26,c46,c47]at g0 g1 g2 g3 g4 g5
   obtain⟨r,e0,k0⟩:=open_rf g0
   obtain⟨b,e1,_⟩:=DataW.trod_bool Tryz.underlying4 g1
   obtain⟨s2,e2,k2⟩:=open_rfs g2
   obtain⟨s3,e3,k3⟩:=open_tys g3
   obtain⟨s4,e4,k4⟩:=open_ints' g4
   obtain⟨s5,e5,k5⟩:=open_ims g5
   simp[eRf]at e0 e1 e2 e3 e4 e5
   obtain⟨rfl,rfl⟩:=e0
   subst e1 e2 e3 e4 e5
   exact⟨⟨r,b,s2,s3,s4,s5⟩,rfl,k0.1,k0.2,k2,k3,k4,k5⟩
theorem open_me (h:DataW.trod enc Tryz.prog w base spare held n 66 cs=some y) : ∃ r:Me,cs=eMe.cells r∧eMe.ok w r:=by
 obtain⟨xs,m,_,_,hl,hlen,hf⟩:=DataW.trod_struct Tryz.underlying66 h
 rw[cMe]at hl
 match cs,hl with
 | [c0,c1,c2,c3,c4,c5,c6,c7,c8,c9,c10],_ =>
  match xs,hlen with
  | [x0,x1,x2,x3,x4,x5,x6,x7,x8],_ =>
   have g0:=hf 0 _ rfl
   have g1:=hf 1 _ rfl
   have g2:=hf 2 _ rfl
   have g3:=hf 3 _ rfl
   have g4:=hf 4 _ rfl
   have g5:=hf 5 _ rfl
   have g6:=hf 6 _ rfl
   have g7:=hf 7 _ rfl
   have g8:=hf 8 _ rfl
   simp[cTy,cBool,cInt,c26,c52,c53]at g0 g1 g2 g3 g4 g5 g6 g7 g8
   obtain⟨b0,e0,_⟩:=DataW.trod_bool Tryz.underlying4 g0
   obtain⟨b1,e1,_⟩:=DataW.trod_bool Tryz.underlying4 g1
   obtain⟨z2,e2,k2⟩:=open_int' g2
   obtain⟨s3,e3,k3⟩:=open_tys g3
   obtain⟨t4,e4,k4⟩:=open_ty g4
   obtain⟨z5,e5,k5⟩:=open_int' g5
   obtain⟨z6,e6,k6⟩:=open_int' g6
   obtain⟨s7,e7,k7⟩:=open_ins g7
   obtain⟨s8,e8,k8⟩:=open_hds g8
   simp[eTy]at e0 e1 e2 e3 e4 e5 e6 e7 e8
   obtain⟨rfl,rfl,rfl⟩:=e4
   subst e0 e1 e2 e3 e5 e6 e7 e8
   exact⟨⟨b0,b1,z2,s3,t4,z5,z6,s7,s8⟩,rfl,k2,k3,k4,k5,k6,k7,k8⟩
theorem open_cls (h:DataW.trod enc Tryz.prog w base spare held n 48 cs=some y) : ∃ s:Sl Cl,cs=[s.v]∧s.Ok eCl 7 w:=open_slA (by omega) Tryz.underlying48 cCl (fun _ _ _=>open_cl) h
theorem open_mes (h:DataW.trod enc Tryz.prog w base spare held n 49 cs=some y) : ∃ s:Sl Me,cs=[s.v]∧s.Ok eMe 11 w:=open_slA (by omega) Tryz.underlying49 cMe (fun _ _ _=>open_me) h
theorem open_pk (h:DataW.trod enc Tryz.prog w base spare held n 52 cs=some y) : ∃ p:Pk,cs=[.slice p.aid.a p.aid.xs.length p.aid.c,.int .i64 p.major,.int .i64 p.minor,.slice p.imports.a p.imports.xs.length p.imports.c,.slice p.classes.a p.classes.xs.length p.classes.c,.slice p.methods.a p.methods.xs.length p.methods.c,.slice p.statics.a p.statics.xs.length p.statics.c,.slice p.applets.a p.applets.xs.length p.applets.c]∧p.Ok w:=by
 obtain⟨xs,m,_,_,hl,hlen,hf⟩:=DataW.trod_struct Tryz.underlying52 h
 rw[cPk]at hl
 match cs,hl with
 | [c0,c1,c2,c3,c4,c5,c6,c7],_ =>
  match xs,hlen with
  | [x0,x1,x2,x3,x4,x5,x6,x7],_ =>
   have g0:=hf 0 _ rfl
   have g1:=hf 1 _ rfl
   have g2:=hf 2 _ rfl
   have g3:=hf 3 _ rfl
   have g4:=hf 4 _ rfl
   have g5:=hf 5 _ rfl
   have g6:=hf 6 _ rfl
   have g7:=hf 7 _ rfl
   simp[cBs,cInt,c23,c24,c25,c26,c27]at g0 g1 g2 g3 g4 g5 g6 g7
   obtain⟨s0,e0,k0⟩:=open_bytes g0
   obtain⟨z1,e1,k1⟩:=open_int' g1
   obtain⟨z2,e2,k2⟩:=open_int' g2
   obtain⟨s3,e3,k3⟩:=open_ips g3
   obtain⟨s4,e4,k4⟩:=open_cls g4
   obtain⟨s5,e5,k5⟩:=open_mes g5
   obtain⟨s6,e6,k6⟩:=open_tys g6
   obtain⟨s7,e7,k7⟩:=open_aps g7
   simp at e0 e1 e2 e3 e4 e5 e6 e7
   subst e0 e1 e2 e3 e4 e5 e6 e7
   exact⟨⟨s0,z1,z2,s3,s4,s5,s6,s7⟩,rfl,k0,k1,k2,k3,k4,k5,k6,k7⟩
end
end Go.Proofs.YtiboldloondokaaGreatDoor
end
