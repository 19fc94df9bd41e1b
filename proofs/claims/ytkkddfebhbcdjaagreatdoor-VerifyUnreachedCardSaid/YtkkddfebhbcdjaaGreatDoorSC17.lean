/- Part of a proof. -/
import Derived.Test.YtkkddfebhbcdjaaGreatDoorSC16
import Derived.Laws.OwnMore
set_option maxRecDepth 100000
set_option maxHeartbeats 8000000
section
namespace Go.Proofs.YtkkddfebhbcdjaaGreatDoor
open Go.ChangeShapes Go.WideShapes Go.ChangeAt Go.RowKit Go.Sc
theorem qaU {W:World} {s:Sl Ty} (h:s.Ok eT 3 W) {b o:Nat} (hb : ∀ g o' q,s.a=some ⟨g,o',q⟩→g≠b) (v:Value):s.Ok eT 3 (W.setCell ⟨b,o,none⟩ v) :=
 ⟨h.le,h.max,h.nil,fun k x hx=>by
  obtain⟨_,g,off,h2,h3,h4⟩:=h.at_ k x hx;exact⟨trivial,g,off,h2,by simpa [World.setCell] using h3,fun j u hu=>(qax (hb g off none h2)).trans (h4 j u hu)⟩⟩
theorem qiK {α:Type} {a l:List α} {i j:Nat} {y:α} (h:j=a.length+i):(a ++ l).set j y=a ++ l.set i y:=by subst h;rw[List.set_append_right _ _ (by omega),Nat.add_sub_cancel_left]
theorem qhy {W:World} {B g n c:Nat} {xs:List Ty} (h:qcK W B (.slice (some ⟨g,0,none⟩) n c) xs) (i:Nat) (t:Ty) :
  qcK (((W.setCell ⟨g,i * 3,none⟩ (Z t.k)).setCell ⟨g,i * 3+1,none⟩ (Z t.c.p)).setCell ⟨g,i * 3+2,none⟩ (Z t.c.c)) B (.slice (some ⟨g,0,none⟩) n c) (xs.set i t):=by
 have hn:n=xs.length:=by
  rcases h.2 with⟨e,_⟩|⟨g',cap,cur,e,_⟩
  ·cases e
  ·cases e;rfl
 subst hn;have h1:=(((World.ownsRow.stored h (i * 3) (Z t.k)).1.stored (i * 3+1) (Z t.c.p)).1.stored (i * 3+2) (Z t.c.c)).1;refine Own.eq h1 (by simp) ?_;clear h1 h
 induction xs generalizing i with
 | nil=>simp
 | cons x xs ih =>
  cases i with
  | zero=>simp[eT]
  | succ i =>
   have:=ih i;simp only[List.flatMap_cons,List.set_cons_succ]at this ⊢;rw[← this];have e1:(i+1) * 3=(eT.cells x).length+i * 3:=by simp[eT];omega
   have e2:(i+1) * 3+1=(eT.cells x).length+(i * 3+1):=by omega
   have e3:(i+1) * 3+2=(eT.cells x).length+(i * 3+2):=by omega
   rw[qiK e1,qiK e2,qiK e3]
structure AsAt (s:Sl Pk) (x:Me) (A mk st:Nat) (at_:Int) (W:World):Prop where
 lt:A<W.heap.size
 c0:W.cell? ⟨A,0,none⟩=some (.slice s.a s.xs.length s.c)
 m : ∀(j:Nat) (v:Value),(eMe.cells x)[j]? = some v→W.cell? ⟨A,1+j,none⟩=some v
 c12:W.cell? ⟨A,12,none⟩=some (Z at_)
 c13:W.cell? ⟨A,13,none⟩=some (.map (some mk))
 c14:W.cell? ⟨A,14,none⟩=some (.pointer (some ⟨st,0,none⟩))
 fr : ∀ o,W.frozen? ⟨A,o,none⟩=false
theorem AsAt.block {s:Sl Pk} {x:Me} {A mk st:Nat} {n:Int} {W W':World} (h:AsAt s x A mk st n W) (hs:W.heap.size≤W'.heap.size) (hb:W'.heap[A]? = W.heap[A]?):AsAt s x A mk st n W' :=
 have c : ∀ o,W'.cell? ⟨A,o,none⟩=W.cell? ⟨A,o,none⟩:=fun o=>World.cell?_of_block (w:=W) (a:=⟨A,o,none⟩) hb
 ⟨Nat.lt_of_lt_of_le h.lt hs,(c 0).trans h.c0,fun j v hv=>(c _).trans (h.m j v hv),(c 12).trans h.c12,(c 13).trans h.c13,(c 14).trans h.c14,fun o=>(World.frozen?_of_block (w:=W) (a:=⟨A,o,none⟩) hb).trans (h.fr o)⟩
theorem AsAt.below {s:Sl Pk} {x:Me} {A mk st:Nat} {n:Int} {W W':World} {B:Nat} (h:AsAt s x A mk st n W) (hb:Below B W W') (hA:A<B):AsAt s x A mk st n W':=h.block hb.size (hb.block A hA)
theorem AsAt.at_set {s:Sl Pk} {x:Me} {A mk st:Nat} {n:Int} {W:World} (h:AsAt s x A mk st n W) (k:Int):AsAt s x A mk st k (W.setCell ⟨A,12,none⟩ (Z k)) :=
 have c : ∀ o,o≠12→(W.setCell ⟨A,12,none⟩ (Z k)).cell? ⟨A,o,none⟩=W.cell? ⟨A,o,none⟩:=fun o ho=>by rw[World.cell?_setCell_other];simp
 ⟨by simpa [World.setCell] using h.lt,(c 0 (by omega)).trans h.c0,fun j v hv=>(c _ (by
   have:=(List.getElem?_eq_some_iff.1 hv).1;simp[eMe]at this;omega)).trans (h.m j v hv),World.cell?_setCell_same' _ _ _ (by rw[h.c12];rfl),(c 13 (by omega)).trans h.c13,(c 14 (by omega)).trans h.c14,fun o=>by rw[World.frozen?_setCell];exact h.fr o⟩
structure TK (B A T:Nat) (W:World) (s:St) (la:Option Addr) (lc:Nat) (sa:Option Addr) (sc:Nat):Prop where
 lt:T<W.heap.size
 le:B≤T
 fr : ∀ o,W.frozen? ⟨T,o,none⟩=false
 t0:W.cell? ⟨T,0,none⟩=some (.pointer (some ⟨A,0,none⟩))
 t1:W.cell? ⟨T,1,none⟩=some (.slice la s.lo.length lc)
 t2:W.cell? ⟨T,2,none⟩=some (.slice sa s.sk.length sc)
 own:qcK W B (.slice la s.lo.length lc) s.lo
 neT:(Value.slice la s.lo.length lc).ownBlock≠some T
 sk:(⟨sa,sc,s.sk⟩:Sl Ty).Ok eT 3 W
 skT : ∀ g o q,sa=some ⟨g,o,q⟩→g≠T∧(Value.slice la s.lo.length lc).ownBlock≠some g
section
variable {B A T:Nat} {W:World} {s:St} {la sa:Option Addr} {lc sc:Nat}
theorem TK.below {W':World} (h:TK B A T W s la lc sa sc) (hb:Below W.heap.size W W'):TK B A T W' s la lc sa sc :=
 have c : ∀ o,W'.cell? ⟨T,o,none⟩=W.cell? ⟨T,o,none⟩:=fun o=>hb.cell (p:=⟨T,o,none⟩) h.lt
 ⟨Nat.lt_of_lt_of_le h.lt hb.size,h.le,fun o=>(hb.frozen (p:=⟨T,o,none⟩) h.lt).trans (h.fr o),(c 0).trans h.t0,(c 1).trans h.t1,(c 2).trans h.t2,h.own.below hb,h.neT,h.sk.mono hb,h.skT⟩
theorem TK.stack (h:TK B A T W s la lc sa sc) {k:List Ty} {ka:Option Addr} {kc:Nat} (hk:(⟨ka,kc,k⟩:Sl Ty).Ok eT 3 W) (hn : ∀ g o q,ka=some ⟨g,o,q⟩→g≠T∧(Value.slice la s.lo.length lc).ownBlock≠some g) :
  TK B A T (W.setCell ⟨T,2,none⟩ (.slice ka k.length kc)) ⟨s.lo,k⟩ la lc ka kc :=
 have c : ∀ o,o≠2→(W.setCell ⟨T,2,none⟩ (.slice ka k.length kc)).cell? ⟨T,o,none⟩=W.cell? ⟨T,o,none⟩:=fun o ho=>by rw[World.cell?_setCell_other];simp
 ⟨by simpa [World.setCell] using h.lt,h.le,fun o=>by rw[World.frozen?_setCell];exact h.fr o,(c 0 (by omega)).trans h.t0,(c 1 (by omega)).trans h.t1,World.cell?_setCell_same' _ _ _ (by rw[h.t2];rfl),
  haveI:Nv T (.slice la s.lo.length lc):=⟨h.neT⟩
  Own.set inferInstance h.own 2 _,h.neT,qaU hk (fun g o q e=>(hn g o q e).1) _,hn⟩
theorem TK.local_ {g:Nat} (h:TK B A T W s (some ⟨g,0,none⟩) lc sa sc) (i:Nat) (t:Ty) :
  TK B A T (((W.setCell ⟨g,i * 3,none⟩ (Z t.k)).setCell ⟨g,i * 3+1,none⟩ (Z t.c.p)).setCell ⟨g,i * 3+2,none⟩ (Z t.c.c)) ⟨s.lo.set i t,s.sk⟩ (some ⟨g,0,none⟩) lc sa sc:=by
 have hg:T≠g:=fun e=>h.neT (by rw[e];rfl)
 have hk : ∀ g' o q,sa=some ⟨g',o,q⟩→g'≠g:=fun g' o q e e2=>(h.skT g' o q e).2 (by rw[e2];rfl)
 have ho:=qhy h.own i t;refine⟨by simpa [World.setCell] using h.lt,h.le,fun o=>by rw[World.frozen?_setCell,World.frozen?_setCell,World.frozen?_setCell];exact h.fr o,?_,?_,?_,?_,?_,?_,?_⟩
 ·rw[qax hg,qax hg,qax hg];exact h.t0
 ·rw[qax hg,qax hg,qax hg];simpa using h.t1
 ·rw[qax hg,qax hg,qax hg];exact h.t2
 ·simpa using ho
 ·simpa using h.neT
 ·exact qaU (qaU (qaU h.sk hk _) hk _) hk _
 ·simpa using h.skT
end
end Go.Proofs.YtkkddfebhbcdjaaGreatDoor
end
