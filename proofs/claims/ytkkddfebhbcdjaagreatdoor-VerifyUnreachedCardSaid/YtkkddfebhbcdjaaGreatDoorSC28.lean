/- Part of a proof. -/
import Derived.Test.YtkkddfebhbcdjaaGreatDoorSC14
import Derived.Deep.DeepCutAuto
import Derived.Deep.CutBlock
set_option maxRecDepth 100000
set_option maxHeartbeats 8000000
section
namespace Go.Proofs.YtkkddfebhbcdjaaGreatDoor
open Go.ChangeShapes Go.WideShapes Go.ChangeAt Go.RowKit Go.Sc
section
variable (w:World) {ops:Array Oper} {rest:List Oper} {o:Oper} {a:Act} {Q:Exit→Act→World→Prop}
end
abbrev qti (tb:List Int) (W:World):Ending→World→Prop:=fun e w'=>∃(a:Option Addr) (c:Nat) (x:Ext W),e = .returned (.slice a tb.length c)∧w'=x.val∧Hid (∀ b o q,a=some ⟨b,o,q⟩→W.heap.size≤b∧b<x.val.heap.size)∧Hid (qaX x.val ⟨a,c,tb⟩)
theorem qkq.row {f:FuncId} {args:Array Value} {w:World} {xs:List Int} (h:qkq f args w (fun v=>v) xs) (hb : ∀ x∈xs,byt x):Calls Tryz.prog f args w (qti xs w) :=
 h.mono fun _ w' ⟨v,he,ho,hw⟩=>by
  obtain⟨a,c,rfl,h1,h2⟩:=qqP ho hb;exact⟨a,c,⟨w',hw⟩,he,rfl,h2,h1⟩
end Go.Proofs.YtkkddfebhbcdjaaGreatDoor
end
section
namespace Go.Proofs.YtkkddfebhbcdjaaGreatDoor
open Go.ChangeShapes Go.WideShapes Go.ChangeAt Go.RowKit Go.Sc

end Go.Proofs.YtkkddfebhbcdjaaGreatDoor
end
section
namespace Go.Proofs.YtkkddfebhbcdjaaGreatDoor
open Go.ChangeShapes Go.WideShapes Go.ChangeAt Go.RowKit Go.Sc
section
variable (w:World) {ops:Array Oper} {rest:List Oper} {o:Oper} {a:Act} {Q:Exit→Act→World→Prop}
end
def Apt (w:World) (v:Value) (s:Sl Int):Prop:=qaX w s∧∀ b o q,s.a=some ⟨b,o,q⟩→v.ownBlock≠some b∧b<w.heap.size
theorem Apt.below {w w':World} {v:Value} {s:Sl Int} (h:Apt w v s) (hw:Below w.heap.size w w'):Apt w' v s:=⟨h.1.mono hw,fun b o q e=>⟨(h.2 b o q e).1,Nat.lt_of_lt_of_le (h.2 b o q e).2 hw.size⟩⟩
end Go.Proofs.YtkkddfebhbcdjaaGreatDoor
end
section
namespace Go.Proofs.YtkkddfebhbcdjaaGreatDoor
open Go.ChangeShapes Go.WideShapes Go.ChangeAt Go.RowKit Go.Sc


theorem qb9 {a b c:Int} (h:a=c) (hc:c≠0):thn a b=c:=by subst h;unfold thn;rw[if_neg hc]
theorem qaZ {a b:Int} (h:a=0):thn a b=b:=by unfold thn;rw[if_pos h]
theorem qr3 {L t:List Pk} {p:Pk} (h:L=p :: t):qcV L=thn (qac (fun _ q=>qau q) 0 L) (if t.length≠p.imports.xs.length then 23 else thn (qcP L p.imports.xs) (thn (qef L) (thn (qfY p.aid.xs t) (if qfU L=true then 21 else 0)))):=by subst h;rfl
theorem qr6 {L:List Pk} {l:List Ip} {m:Nat} {x:Ip} {q:Pk} (hz : ∀(j:Nat) (u:Ip) (q:Pk),j<m→l[j]? = some u→L[j+1]? = some q→qcX u q=0) (hl:l.length<L.length) (hx:l[m]? = some x) (hq:L[m+1]? = some q) (hne:qcX x q≠0):qcP L l=qcX x q:=by
 unfold qcP;have:=qcB (F:=fun i x=>match L[i+1]? with|some q=>qcX x q|none=>0) (n:=0) (k:=m) (y:=x) (xs:=l) (fun j u hj hu=>by
  simp only[Nat.zero_add];obtain⟨q',hq'⟩:=getElem?_of_lt (show j+1<L.length by have:=(List.getElem?_eq_some_iff.1 hu).1;omega);rw[hq'];exact hz j u q' hj hu hq') hx (by simp only[Nat.zero_add,hq];exact hne)
 simp only[Nat.zero_add,hq]at this;exact this
theorem qn6 {L:List Pk} {l:List Ip} (hz : ∀(j:Nat) (u:Ip) (q:Pk),j<l.length→l[j]? = some u→L[j+1]? = some q→qcX u q=0):qcP L l=0:=by
 unfold qcP;refine qbx fun j u hu=>?_
 rw[Nat.zero_add];cases hq:L[j+1]? with
 | none=>rfl
 | some q=>exact hz j u q (List.getElem?_eq_some_iff.1 hu).1 hu hq
theorem qa5 {α:Type} {F:Nat→α→Int} {xs:List α} {k:Nat} {y:α} (hz : ∀(j:Nat) (u:α),j<k→xs[j]? = some u→F j u=0) (hy:xs[k]? = some y) (hne:F k y≠0):qac F 0 xs=F k y:=by
 have:=qcB (F:=F) (n:=0) (k:=k) (y:=y) (xs:=xs) (by simpa using hz) hy (by simpa using hne)
 simpa using this
theorem qaG {α:Type} {F:Nat→α→Int} {xs:List α} (hz : ∀(j:Nat) (u:α),xs[j]? = some u→F j u=0):qac F 0 xs=0:=qbx fun j u hu=>by rw[Nat.zero_add];exact hz j u hu
theorem qa7 {α:Type} {P:Nat→α→Prop} {xs:List α} {k:Nat} {y:α} (h : ∀(j:Nat) (u:α),j<k→xs[j]? = some u→P j u) (hy:xs[k]? = some y) (hP:P k y) : ∀(j:Nat) (u:α),j<k+1→xs[j]? = some u→P j u:=fun j u hj hu=>by
 rcases Nat.lt_succ_iff_lt_or_eq.1 hj with h'|rfl
 ·exact h j u h' hu
 ·have h1:=hy.symm.trans hu;cases h1;exact hP
end Go.Proofs.YtkkddfebhbcdjaaGreatDoor
end
section
namespace Go.Proofs.YtkkddfebhbcdjaaGreatDoor
open Go.ChangeShapes Go.WideShapes Go.ChangeAt Go.RowKit Go.Sc
def qdp (L:List Pk) (cls:Int) (k:Nat) (t:Sg):Int:=match qaI L ⟨0,cls⟩ k with|some s=>if qek s t=true then 0 else 22|none=>22
theorem qg8 (L:List Pk) (a:Ap):qdr L a=qac (qdp L a.cls) 0 qgS:=rfl
theorem qpm {L:List Pk} {cls:Int} {k:Nat} {t:Sg} (h:qaI L ⟨0,cls⟩ k=none):qdp L cls k t=22:=by unfold qdp;rw[h]
theorem qeX {L:List Pk} {cls:Int} {k:Nat} {t s:Sg} (h:qaI L ⟨0,cls⟩ k=some s):qdp L cls k t=if qek s t=true then 0 else 22:=by unfold qdp;rw[h]
theorem al_at {W:World} {b o:Nat} {T:TypeId} {vs:Array Value} (h:b=W.heap.size):(W.alloc (.cells vs T)).cell? ⟨b,o,none⟩=vs[o]?:=by subst h;exact World.cell?_alloc_new _ _ _ _
theorem qvS{p:Prop}(h:p:=by
 simp at hx;subst hx;refine⟨trivial,_,_,rfl,hb,fun j v hv=>?_⟩;simp only[eT]at hv
 match j,hv with
 | 0,hv=>simpa [h0] using hv
 | 1,hv=>simpa [h1] using hv
 | 2,hv=>simpa [h2] using hv):p:=h
theorem qtz {V:World} {b:Nat} {t:Ty} (hb:b<V.heap.size) (h0:V.cell? ⟨b,0,none⟩=some (Z t.k)) (h1:V.cell? ⟨b,1,none⟩=some (Z t.c.p)) (h2:V.cell? ⟨b,2,none⟩=some (Z t.c.c)):(⟨some ⟨b,0,none⟩,1,[t]⟩:Sl Ty).Ok eT 3 V:=by
 refine⟨by simp,by simp,by simp,fun j x hx=>?_⟩
 match j,hx with
 | 0,hx =>
  exact qvS
theorem qvn {V:World} {b:Nat} {t u:Ty} (hb:b<V.heap.size) (h0:V.cell? ⟨b,0,none⟩=some (Z t.k)) (h1:V.cell? ⟨b,1,none⟩=some (Z t.c.p)) (h2:V.cell? ⟨b,2,none⟩=some (Z t.c.c))
  (h3:V.cell? ⟨b,3,none⟩=some (Z u.k)) (h4:V.cell? ⟨b,4,none⟩=some (Z u.c.p)) (h5:V.cell? ⟨b,5,none⟩=some (Z u.c.c)):(⟨some ⟨b,0,none⟩,2,[t,u]⟩:Sl Ty).Ok eT 3 V:=by
 refine⟨by simp,by simp,by simp,fun j x hx=>?_⟩
 match j,hx with
 | 0,hx =>
  exact qvS
 | 1,hx =>
  simp at hx;subst hx;refine⟨trivial,_,_,rfl,hb,fun j v hv=>?_⟩;simp only[eT]at hv
  match j,hv with
  | 0,hv=>simpa [h3] using hv
  | 1,hv=>simpa [h4] using hv
  | 2,hv=>simpa [h5] using hv
theorem qu8 (V:World):(⟨none,0,[]⟩:Sl Ty).Ok eT 3 V:=⟨by simp,by simp,by simp,fun j x hx=>by simp at hx⟩
section
attribute [local simp] al_at Ext.cell alloc_cell_in
end
end Go.Proofs.YtkkddfebhbcdjaaGreatDoor
end
