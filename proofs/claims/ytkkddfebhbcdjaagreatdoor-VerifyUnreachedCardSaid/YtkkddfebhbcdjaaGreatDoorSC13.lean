/- Part of a proof. -/
import Derived.Test.YtkkddfebhbcdjaaGreatDoorSC12
import Derived.Test.YtkkddfebhbcdjaaGreatDoorSC10
set_option maxRecDepth 100000
set_option maxHeartbeats 8000000
section
namespace Go.Sc
open Go.RowKit
def ePk:El Pk:=⟨fun p=>[.slice p.aid.a p.aid.xs.length p.aid.c,Z p.major,Z p.minor,.slice p.imports.a p.imports.xs.length p.imports.c,.slice p.classes.a p.classes.xs.length p.classes.c,.slice p.methods.a p.methods.xs.length p.methods.c,.slice p.statics.a p.statics.xs.length p.statics.c,.slice p.applets.a p.applets.xs.length p.applets.c],fun w p=>p.Ok w,fun hb h=>h.mono hb⟩
abbrev Pks (w:World) (s:Sl Pk):Prop:=s.Ok ePk 8 w
def eN:El Rf:=⟨fun r=>[Z r.p,Z r.c],fun _ _=>True,fun _ _=>trivial⟩
def eT:El Ty:=⟨fun t=>[Z t.k,Z t.c.p,Z t.c.c],fun _ _=>True,fun _ _=>trivial⟩
theorem Sl.Ok.names {w:World} {s:Sl Rf} (h:s.Ok eRf 2 w):s.Ok eN 2 w:=⟨h.le,h.max,h.nil,fun k x hx=>⟨trivial,(h.at_ k x hx).2⟩⟩
theorem Sl.Ok.types {w:World} {s:Sl Ty} (h:s.Ok eTy 3 w):s.Ok eT 3 w:=⟨h.le,h.max,h.nil,fun k x hx=>⟨trivial,(h.at_ k x hx).2⟩⟩
def Own {α:Type} (E:El α) (m:Nat) (U:TypeId) (w:World) (B:Nat) (v:Value) (xs:List α):Prop:=w.ownsRow B U m v xs.length (xs.flatMap E.cells)
theorem Own.eq {α:Type} {E:El α} {m:Nat} {U:TypeId} {w:World} {B n:Nat} {v:Value} {xs:List α} {ys:List Value} (h:w.ownsRow B U m v n ys) (hn:n=xs.length) (he:ys=xs.flatMap E.cells):Own E m U w B v xs:=qcN h hn he
theorem Own.nil {α:Type} (E:El α) (m:Nat) (U:TypeId) (w:World) (B:Nat):Own E m U w B (.slice none 0 0) []:=qiw w B U m
theorem Own.below {α:Type} {E:El α} {m:Nat} {U:TypeId} {w w':World} {B:Nat} {v:Value} {xs:List α} (h:Own E m U w B v xs) (hb:Below w.heap.size w w'):Own E m U w' B v xs:=qfA h hb
theorem Own.mono {α:Type} {E:El α} {m:Nat} {U:TypeId} {w:World} {B C:Nat} {v:Value} {xs:List α} (h:Own E m U w B v xs) (hb:C≤B):Own E m U w C v xs:=World.ownsRow.mono h hb
theorem Own.sl {w:World} {B:Nat} {U:TypeId} {v:Value} {xs:List Rf} (h:Own eN 2 U w B v xs) : ∃ a c,v = .slice a xs.length c∧(⟨a,c,xs⟩:Sl Rf).Ok eN 2 w :=
 let ⟨a,c,h1,h2,_⟩:=qbb h (fun _ _=>rfl) fun _ _=>trivial
 ⟨a,c,h1,h2⟩
theorem Own.slT {w:World} {B:Nat} {U:TypeId} {v:Value} {xs:List Ty} (h:Own eT 3 U w B v xs) : ∃ a c,v = .slice a xs.length c∧(⟨a,c,xs⟩:Sl Ty).Ok eT 3 w :=
 let ⟨a,c,h1,h2,_⟩:=qbb h (fun _ _=>rfl) fun _ _=>trivial
 ⟨a,c,h1,h2⟩
def qaW {α:Type} (E:El α) (m:Nat) (U:TypeId) (P:Program) (f:FuncId) (args:Array Value) (w:World) (r:Value→Value) (xs:List α):Prop :=
 Calls P f args w fun e w'=>∃ v,e = .returned (r v)∧Own E m U w' w.heap.size v xs∧Below w.heap.size w w'
theorem qaW.goN {U:TypeId} {P:Program} {f:FuncId} {args:Array Value} {w:World} {r:Value→Value} {xs:List Rf} (h:qaW eN 2 U P f args w r xs) (n:Nat) (hn:xs.length=n) :
  Calls P f args w fun e w'=>∃(a:Option Addr) (c:Nat) (x:Ext w),e = .returned (r (.slice a n c))∧w'=x.val∧Hid (Own eN 2 U x.val w.heap.size (.slice a n c) xs)∧Hid ((⟨a,c,xs⟩:Sl Rf).Ok eN 2 x.val) :=
 h.mono fun _ w' ⟨v,he,ho,hw⟩=>by
  obtain⟨a,c,rfl,h1⟩:=ho.sl;subst hn;exact⟨a,c,⟨w',hw⟩,he,rfl,ho,h1⟩
theorem qaW.goT {U:TypeId} {P:Program} {f:FuncId} {args:Array Value} {w:World} {r:Value→Value} {xs:List Ty} (h:qaW eT 3 U P f args w r xs) (n:Nat) (hn:xs.length=n) :
  Calls P f args w fun e w'=>∃(a:Option Addr) (c:Nat) (x:Ext w),e = .returned (r (.slice a n c))∧w'=x.val∧Hid (Own eT 3 U x.val w.heap.size (.slice a n c) xs)∧Hid ((⟨a,c,xs⟩:Sl Ty).Ok eT 3 x.val) :=
 h.mono fun _ w' ⟨v,he,ho,hw⟩=>by
  obtain⟨a,c,rfl,h1⟩:=ho.slT;subst hn;exact⟨a,c,⟨w',hw⟩,he,rfl,ho,h1⟩
structure FewC (c:Cl):Prop where
 ext:c.ext.xs.length≤40
 fields:c.fields.xs.length≤40
 virt:c.virt.xs.length≤40
 impls:c.impls.xs.length≤40
 ms : ∀ y∈c.impls.xs,y.ms.xs.length≤40
structure FewP (p:Pk):Prop where
 imports:p.imports.xs.length≤20
 classes:p.classes.xs.length≤40
 methods:p.methods.xs.length≤80
 statics:p.statics.xs.length≤40
 applets:p.applets.xs.length≤40
 cls : ∀ c∈p.classes.xs,FewC c
 params : ∀ m∈p.methods.xs,m.params.xs.length≤20
structure Few (L:List Pk):Prop where
 len:L.length≤8
 all : ∀ p∈L,FewP p
end Go.Sc
end
section
namespace Go.Proofs.YtkkddfebhbcdjaaGreatDoor
open Go.ChangeShapes Go.WideShapes Go.ChangeAt Go.RowKit Go.Sc
theorem qmY {aid:List Int} : ∀ {M:List Pk} {k:Nat} {a:Int} {p:Pk} {j:Nat},(∀(i:Nat) (u:Pk),i<k→M[i]? = some u→ql7 aid u<0)→M[k]? = some p→ql7 aid p=j→qfX aid a M=a+16 * k+j+1
 | [],_,_,_,_,_,h,_=>by simp at h
 | q :: M,0,a,p,j,_,h,hj=>by
  simp at h;subst h;rw[qfX,if_pos (by omega),hj];omega
 | q :: M,k+1,a,p,j,h0,h,hj=>by
  have:=h0 0 q (by omega) rfl;rw[qfX,if_neg (by omega),qmY (k:=k) (fun i u hi hu=>h0 (i+1) u (by omega) (by simpa using hu)) (by simpa using h) hj];omega
theorem qkN {aid:List Int} : ∀ {M:List Pk} {a:Int},(∀(i:Nat) (u:Pk),M[i]? = some u→ql7 aid u<0)→qfX aid a M = -1
 | [],_,_=>rfl
 | q :: M,a,h0=>by
  have:=h0 0 q rfl;rw[qfX,if_neg (by omega)];exact qkN fun i u hu=>h0 (i+1) u (by simpa using hu)
theorem qqm {aid:List Int} {p:Pk} {j:Nat} {x:Ip} (h : ∀(i:Nat) (u:Ip),i<j→p.imports.xs[i]? = some u→bEq u.aid.xs aid=false) (hx:p.imports.xs[j]? = some x) (hb:bEq x.aid.xs aid=true):ql7 aid p=j:=by
 have:=qbq (p:=fun x:Ip=>bEq x.aid.xs aid) (n:=0) (k:=j) (y:=x) h hx hb;unfold ql7;rw[this];simp
theorem qoz {aid:List Int} {p:Pk} (h : ∀(i:Nat) (u:Ip),p.imports.xs[i]? = some u→bEq u.aid.xs aid=false):ql7 aid p<0:=by
 have:=qcY (p:=fun x:Ip=>bEq x.aid.xs aid) (n:=0) (xs:=p.imports.xs) h;unfold ql7;rw[this];omega
theorem qph {L:List Pk} {aid:List Int} {k:Nat} {p:Pk} (h : ∀(i:Nat) (u:Pk),i<k→L[i]? = some u→bEq u.aid.xs aid=false) (hp:L[k]? = some p) (hb:bEq p.aid.xs aid=true):qa4 L aid=k:=by
 have:=qbq (p:=fun p:Pk=>bEq p.aid.xs aid) (n:=0) (k:=k) (y:=p) h hp hb;unfold qa4;rw[this,if_pos (by omega)];simp
theorem qnZ {L:List Pk} {aid:List Int} (h : ∀(i:Nat) (u:Pk),L[i]? = some u→bEq u.aid.xs aid=false):qa4 L aid=qfX aid 0 L:=by
 have:=qcY (p:=fun p:Pk=>bEq p.aid.xs aid) (n:=0) (xs:=L) h;unfold qa4;rw[this,if_neg (by omega)]
theorem qkH {L:List Pk} {k:Nat} {y:Pk} (hy:L[k]? = some y) (q:Int):qas L ⟨k,q⟩=(decide (0≤q) && decide (q<y.classes.xs.length)):=by
 unfold qas clE;rw[qao,hy];simp only[Option.bind_some];by_cases h0:0≤q
 ·by_cases h1:q<y.classes.xs.length
  ·obtain⟨c,hc⟩:=qjP h0 h1;rw[hc];simp[h0,h1]
  ·rw[qbo (by omega)];simp[h0,h1]
 ·rw[qbo (by omega)];simp[h0]
theorem qsy {α:Type} {f:α→Bool} {xs:List α} {k:Nat} {y:α} (hy:xs[k]? = some y) (h:f y=true):xs.any f=true:=by
 rw[List.any_eq_true];exact⟨y,List.mem_of_getElem? hy,h⟩
theorem qsA {α:Type} {f:α→Bool} {xs:List α} (h : ∀(j:Nat) (y:α),xs[j]? = some y→f y=false):xs.any f=false:=by
 rw[List.any_eq_false];intro y hy;obtain⟨j,hj⟩:=List.getElem?_of_mem hy;simp[h j y hj]

end Go.Proofs.YtkkddfebhbcdjaaGreatDoor
end
section
namespace Go.Sc
open Go.RowKit
structure Axr (v:Value) (w:World) (v':Value) (w':World):Prop where
 os:w'.os=w.os
 tape:w'.tape=w.tape
 output:w'.output=w.output
 size:w.heap.size≤w'.heap.size
 block : ∀ k,k<w.heap.size→v.ownBlock≠some k→w'.heap[k]? = w.heap[k]?
 at_:v'.ownBlock=v.ownBlock∨∃ g,v'.ownBlock=some g∧w.heap.size≤g∧g<w'.heap.size
theorem Axr.refl {v:Value} {w:World}:Axr v w v w:=⟨rfl,rfl,rfl,Nat.le_refl _,fun _ _ _=>rfl,.inl rfl⟩
theorem qwj{p:Prop}(h:p:=by
 have h1:=h.size;have h2:=k.size;rcases k.at_ with e|⟨g,e,hg,hl⟩
 ·rw[e];rcases h.at_ with e'|⟨g,e',hg,hl⟩
  ·exact .inl e'
  ·exact .inr ⟨g,e',hg,by omega⟩
 ·exact .inr ⟨g,e,by omega,hl⟩):p:=h
theorem Axr.trans {v v1 v2:Value} {w w1 w2:World} (h:Axr v w v1 w1) (k:Axr v1 w1 v2 w2):Axr v w v2 w2:=by
 refine⟨k.os.trans h.os,k.tape.trans h.tape,k.output.trans h.output,Nat.le_trans h.size k.size,fun i hi hn=>?_,?_⟩
 ·refine(k.block i (Nat.lt_of_lt_of_le hi h.size) ?_).trans (h.block i hi hn);rcases h.at_ with e|⟨g,e,hg,_⟩
  ·rw[e];exact hn
  ·rw[e];intro he;cases he;omega
 ·exact qwj
theorem Axr.of_below {v:Value} {w w':World} (h:Below w.heap.size w w'):Axr v w v w':=⟨h.os,h.tape,h.output,h.size,fun k hk _=>h.block k hk,.inl rfl⟩
theorem Axr.alloc {v v1:Value} {w w1:World} (h:Axr v w v1 w1) (o:Obj):Axr v w v1 (w1.alloc o):=h.trans (.of_below ((Below.refl _ _).alloc (Nat.le_refl _) o))
theorem Axr.ext {v v1:Value} {w w1:World} (x:Ext w1) (h:Axr v w v1 w1):Axr v w v1 x.val:=h.trans (.of_below x.below)
theorem Axr.drew {v v1:Value} {w w1:World} (h:Axr v w v1 w1):Axr v w v1 w1.drew:=h.trans (.of_below (Below.refl _ _).drew)
structure Ax (v:Value) (w:World) where
 val:World
 v':Value
 rel:Axr v w v' val
theorem Axr.ax {v v1:Value} {w w1:World} (y:Ax v1 w1) (h:Axr v w v1 w1):Axr v w y.v' y.val:=h.trans y.rel
theorem Ax.size {v:Value} {w:World} (y:Ax v w):w.heap.size≤y.val.heap.size:=y.rel.size
theorem Axr.set {v v1:Value} {w w1:World} {b:Nat} (h:Axr v w v1 w1) (hb:w.heap.size≤b) (o:Nat) (u:Value):Axr v w v1 (w1.setCell ⟨b,o,none⟩ u):=by
 refine⟨h.os,h.tape,h.output,by have:=h.size;simpa [World.setCell] using this,fun k hk hn=>?_,?_⟩
 ·simp only[World.setCell];rw[Array.getElem?_modify,if_neg (by omega)];exact h.block k hk hn
 ·rcases h.at_ with e|⟨g,e,hg,hl⟩
  ·exact .inl e
  ·exact .inr ⟨g,e,hg,by simpa [World.setCell] using hl⟩
class Nv (b:Nat) (v:Value):Prop where
 ne:v.ownBlock≠some b
class Vin (v:Value) (W:World):Prop where
 lt : ∀ g,v.ownBlock=some g→g<W.heap.size
class Lov (B:Nat) (v:Value):Prop where
 le : ∀ g,v.ownBlock=some g→B≤g
instance Nv.nil {b n c:Nat}:Nv b (.slice none n c):=⟨by simp[Value.ownBlock]⟩
instance Vin.nil {n c:Nat} {W:World}:Vin (.slice none n c) W:=⟨by simp[Value.ownBlock]⟩
instance Lov.nil {B n c:Nat}:Lov B (.slice none n c):=⟨by simp[Value.ownBlock]⟩
instance Vin.ext {v:Value} {W:World} [h:Vin v W] (x:Ext W):Vin v x.val:=⟨fun g e=>Nat.lt_of_lt_of_le (h.lt g e) x.size⟩
instance Vin.alloc {v:Value} {W:World} [h:Vin v W] (o:Obj):Vin v (W.alloc o):=⟨fun g e=>by have:=h.lt g e;simp;omega⟩
instance Vin.drew {v:Value} {W:World} [h:Vin v W]:Vin v W.drew:=⟨h.lt⟩
instance Vin.set {v:Value} {W:World} [h:Vin v W] (a:Addr) (u:Value):Vin v (W.setCell a u):=⟨fun g e=>by have:=h.lt g e;simpa [World.setCell] using this⟩
instance Vin.ax {v:Value} {W:World} [h:Vin v W] (y:Ax v W):Vin y.v' y.val:=⟨fun g e=>by
 rcases y.rel.at_ with h1|⟨g',h1,_,h3⟩
 ·exact Nat.lt_of_lt_of_le (h.lt g (h1 ▸ e)) y.size
 ·rw[h1]at e;cases e;exact h3⟩
instance Nv.ax {b:Nat} {v:Value} {W:World} [hb:InW b W] [h:Nv b v] (y:Ax v W):Nv b y.v':=⟨fun e=>by
 rcases y.rel.at_ with h1|⟨g',h1,h2,_⟩
 ·exact h.ne (h1 ▸ e)
 ·rw[h1]at e;cases e;have:=hb.lt;omega⟩
instance Nv.new0 {v:Value} {W:World} [h:Vin v W]:Nv W.heap.size v:=⟨fun e=>by have:=h.lt _ e;omega⟩
instance Nv.new1 {v:Value} {W:World} [h:Vin v W]:Nv (W.heap.size+1) v:=⟨fun e=>by have:=h.lt _ e;omega⟩
instance Nv.new2 {v:Value} {W:World} [h:Vin v W]:Nv (W.heap.size+2) v:=⟨fun e=>by have:=h.lt _ e;omega⟩
theorem Nv.low {b B:Nat} {v:Value} (h:Lov B v) (hb:b<B):Nv b v:=⟨fun e=>by have:=h.le _ e;omega⟩
instance Lov.ax {B:Nat} {v:Value} {W:World} [h:Lov B v] [hB:LeW B W] (y:Ax v W):Lov B y.v':=⟨fun g e=>by
 rcases y.rel.at_ with h1|⟨g',h1,h2,_⟩
 ·exact h.le g (h1 ▸ e)
 ·rw[h1]at e;cases e;have:=hB.le;omega⟩
instance InW.ax {b:Nat} {v:Value} {W:World} [h:InW b W] (y:Ax v W):InW b y.val:=⟨Nat.lt_of_lt_of_le h.lt y.size⟩
instance LeW.ax {B:Nat} {v:Value} {W:World} [h:LeW B W] (y:Ax v W):LeW B y.val:=⟨Nat.le_trans h.le y.size⟩
@[go_sem] theorem Ax.cell {v:Value} {W:World} (y:Ax v W) (b o:Nat) [hb:InW b W] [h:Nv b v]:y.val.cell? ⟨b,o,none⟩=W.cell? ⟨b,o,none⟩:=World.cell?_of_block (w:=W) (y.rel.block b hb.lt h.ne)
@[go_sem] theorem Ax.frozen {v:Value} {W:World} (y:Ax v W) (b o:Nat) [hb:InW b W] [h:Nv b v]:y.val.frozen? ⟨b,o,none⟩=W.frozen? ⟨b,o,none⟩:=World.frozen?_of_block (w:=W) (y.rel.block b hb.lt h.ne)
theorem Axr.below {B:Nat} {v v':Value} {w w':World} (h:Axr v w v' w') (hB:B≤w.heap.size) (hl:Lov B v):Below B w w' :=
 ⟨h.os,h.tape,h.output,h.size,fun k hk=>h.block k (by omega) (fun e=>by have:=hl.le _ e;omega)⟩
theorem qbs {B:Nat} {v:Value} {a W:World} (y:Ax v W) (hB:B≤W.heap.size) (hl:Lov B v) (h:Below B a W):Below B a y.val:=h.trans (y.rel.below hB hl)
theorem Own.lo {α:Type} {E:El α} {m:Nat} {U:TypeId} {w:World} {B:Nat} {v:Value} {xs:List α} (h:Own E m U w B v xs):Lov B v:=⟨fun g e=>by
 rcases h.2 with⟨rfl,_⟩|⟨g',cap,cur,rfl,hB,_⟩
 ·simp[Value.ownBlock]at e
 ·simp[Value.ownBlock]at e;omega⟩
theorem Own.vin {α:Type} {E:El α} {m:Nat} {U:TypeId} {w:World} {B:Nat} {v:Value} {xs:List α} (h:Own E m U w B v xs):Vin v w:=⟨fun g e=>by
 rcases h.2 with⟨rfl,_⟩|⟨g',cap,cur,rfl,_,hh,_⟩
 ·simp[Value.ownBlock]at e
 ·simp[Value.ownBlock]at e;subst e;exact(Array.getElem?_eq_some_iff.1 hh).1⟩
theorem Own.kept {α:Type} {E:El α} {m:Nat} {U:TypeId} {w w':World} {B:Nat} {v:Value} {xs:List α} (h:Own E m U w B v xs) (hb : ∀ k,v.ownBlock=some k→w'.heap[k]? = w.heap[k]?):Own E m U w' B v xs:=by
 refine⟨h.1,?_⟩;rcases h.2 with hn|⟨g,cap,cur,rfl,h1,hh,rest⟩
 ·exact .inl hn
 ·exact .inr ⟨g,cap,cur,rfl,h1,(hb g (by simp[Value.ownBlock])).trans hh,rest⟩
theorem Own.alloc {α:Type} {E:El α} {m:Nat} {U:TypeId} {w:World} {B:Nat} {v:Value} {xs:List α} (h:Own E m U w B v xs) (o:Obj):Own E m U (w.alloc o) B v xs:=qb1 h o
theorem Own.ext {α:Type} {E:El α} {m:Nat} {U:TypeId} {w:World} {B:Nat} {v:Value} {xs:List α} (x:Ext w) (h:Own E m U w B v xs):Own E m U x.val B v xs:=qdD x h
theorem Own.drew {α:Type} {E:El α} {m:Nat} {U:TypeId} {w:World} {B:Nat} {v:Value} {xs:List α} (h:Own E m U w B v xs):Own E m U w.drew B v xs:=qcL h
theorem Own.set {α:Type} {E:El α} {m:Nat} {U:TypeId} {w:World} {B b:Nat} {v:Value} {xs:List α} (hn:Nv b v) (h:Own E m U w B v xs) (o:Nat) (u:Value):Own E m U (w.setCell ⟨b,o,none⟩ u) B v xs :=
 h.kept fun k hk=>by
  simp only[World.setCell];rw[Array.getElem?_modify,if_neg (by rintro rfl;exact hn.ne hk)]
section
variable {P:Program} {α:Type}
theorem qhH (w:World) {o:Oper} {a:Act} {K:Act→World→Prop} {Q:Exit→Act→World→Prop} (s x:Operand) (t:TypeId)
  (ho:o.op = .call { callee:=.builtin .append,args:=#[s,x],argTypes:=#[t,t] })
  (B:Nat) (e:TypeId) (z:Value) (m bytes:Nat) (ht:P.underlying t=some (.slice e)) (hi:(P.info? e).map (fun i=>(i.zero,i.size,i.bytes))=some (some z,m,bytes)) (hzs:z.cells.size=m) (hm:0<m) (hbt:bytes≤64)
  (E:El α) (v:Value) (pre:List α) (hs:a.eval s=v) (hown:Hid (Own E m e w B v pre)) (l:Sl α) (hl:Hid (l.Ok E m w)) (hE : ∀ x,(E.cells x).length=m∧∀ u∈E.cells x,u.oneCell'=true)
  (hx:a.eval x=l.v) (hlen:pre.length+l.xs.length≤1099511627776) (hbase:B≤w.heap.size)
  (h : ∀ y:Ax v w,Hid (Own E m e y.val B y.v' (pre ++ l.xs))→K (a.put o.dst y.v') y.val):o.wp P a w K Q :=
 qir w s x t ho B e z m bytes ht hi hzs hm v pre.length (pre.flatMap E.cells) hs hown E l hl (fun x _=>hE x) hx (by unfold maxLen;omega) (by
  have:(pre.length+l.xs.length) * bytes≤1099511627776 * 64:=Nat.mul_le_mul hlen hbt;omega) hbase fun v' w' h1 h2 h3=>h ⟨w',v',⟨h2.out.os,h2.out.tape,h2.out.output,h2.out.size,fun k hk hn=>h2.out.block k hk (Ne.symm hn),by
   rcases h3.out with h|h
   ·exact .inl h
   ·rcases(show Own E m e w' B v' (pre ++ l.xs) from Own.eq h1.out (by simp) (by simp)).2 with⟨hv,_⟩|⟨g,cap,cur,hv,_,hh,_⟩
    ·rw[hv]at h;simp[Value.ownBlock]at h
    ·rw[hv]at h;simp[Value.ownBlock]at h;subst h;exact .inr ⟨_,by rw[hv];simp[Value.ownBlock],Nat.le_refl _,(Array.getElem?_eq_some_iff.1 hh).1⟩⟩⟩ (hid (Own.eq h1.out (by simp) (by simp)))
end
theorem qax {W:World} {B b o o':Nat} {v:Value} (h:b≠B):(W.setCell ⟨B,o,none⟩ v).cell? ⟨b,o',none⟩=W.cell? ⟨b,o',none⟩:=by
 refine World.cell?_of_block (w:=W) ?_;simp only[World.setCell];rw[Array.getElem?_modify,if_neg (Ne.symm h)]
@[go_sem] theorem set_in {W V:World} {b o o':Nat} {v:Value} [h:InW b V]:(W.setCell ⟨V.heap.size,o,none⟩ v).cell? ⟨b,o',none⟩=W.cell? ⟨b,o',none⟩:=qax (by have:=h.lt;omega)
@[go_sem] theorem set_in1 {W V:World} {b o o':Nat} {v:Value} [h:InW b V]:(W.setCell ⟨V.heap.size+1,o,none⟩ v).cell? ⟨b,o',none⟩=W.cell? ⟨b,o',none⟩:=qax (by have:=h.lt;omega)
theorem qqr (W:World) (T:TypeId) (b:Nat) (hb:b=W.heap.size) (r:Rf):(⟨some ⟨b,0,none⟩,1,[r]⟩:Sl Rf).Ok eN 2 (W.alloc (.cells #[Z r.p,Z r.c] T)):=by
 subst hb;refine⟨by simp,by simp,by simp,fun j x hx=>?_⟩
 match j,hx with
 | 0,hx =>
  simp at hx;subst hx;refine⟨trivial,_,_,rfl,by simp,fun j v hv=>?_⟩;rw[World.cell?_alloc_new];simp only[eN]at hv
  match j,hv with
  | 0,hv=>simpa using hv
  | 1,hv=>simpa using hv
theorem qbO (W:World) (T:TypeId) (b:Nat) (hb:b=W.heap.size) (t:Ty):(⟨some ⟨b,0,none⟩,1,[t]⟩:Sl Ty).Ok eT 3 (W.alloc (.cells #[Z t.k,Z t.c.p,Z t.c.c] T)):=by
 subst hb;refine⟨by simp,by simp,by simp,fun j x hx=>?_⟩
 match j,hx with
 | 0,hx =>
  simp at hx;subst hx;refine⟨trivial,_,_,rfl,by simp,fun j v hv=>?_⟩;rw[World.cell?_alloc_new];simp only[eT]at hv
  match j,hv with
  | 0,hv=>simpa using hv
  | 1,hv=>simpa using hv
  | 2,hv=>simpa using hv
theorem qqV (x:Rf):(eN.cells x).length=2∧∀ u∈eN.cells x,u.oneCell'=true:=⟨rfl,fun u hu=>by simp[eN]at hu;rcases hu with rfl|rfl <;> rfl⟩
theorem qoS (x:Ty):(eT.cells x).length=3∧∀ u∈eT.cells x,u.oneCell'=true:=⟨rfl,fun u hu=>by simp[eT]at hu;rcases hu with rfl|rfl|rfl <;> rfl⟩
theorem qix {p:Prop} (h:p:=by(try dsimp only);(with_reducible repeat' (first|exact Axr.refl|refine Axr.set ?_ ?_ _ _|refine Axr.ext _ ?_|refine Axr.ax _ ?_|refine Axr.alloc ?_ _|refine Axr.drew ?_));(all_goals (first|omega|(simp;done)|(simp;omega)))):p:=h
theorem BAX {p:Prop} (h:p:=by(try dsimp only);(with_reducible repeat' (first|exact Hid.out (by assumption)|exact Below.refl _ _|exact Nat.le_refl _|refine Below.alloc ?_ ?_ _|refine qe8 _ ?_ ?_|refine qbs _ ?_ ?_ ?_|refine Below.drew ?_|refine Below.setCell ?_ ?_ _|exact LeW.le));(all_goals (first|infer_instance|omega|(simp;done)|(simp;omega)))):p:=h
theorem qdy {W:World} {b:Nat} {p c p' c':Value} (h0:W.cell? ⟨b,0,none⟩=some p) (h1:W.cell? ⟨b,1,none⟩=some c) :
  ((W.setCell ⟨b,0,none⟩ p').setCell ⟨b,1,none⟩ c').cell? ⟨b,0,none⟩=some p'∧((W.setCell ⟨b,0,none⟩ p').setCell ⟨b,1,none⟩ c').cell? ⟨b,1,none⟩=some c':=by
 have e1:(W.setCell ⟨b,0,none⟩ p').cell? ⟨b,1,none⟩=some c:=by
  rw[World.cell?_setCell_other]
  ·exact h1
  ·simp
 refine⟨?_,World.cell?_setCell_same' _ _ _ (by rw[e1];rfl)⟩;rw[World.cell?_setCell_other]
 ·exact World.cell?_setCell_same' _ _ _ (by rw[h0];rfl)
 ·simp
end Go.Sc
end
section
namespace Go.Proofs.YtkkddfebhbcdjaaGreatDoor
open Go.ChangeShapes Go.WideShapes Go.ChangeAt Go.RowKit Go.Sc
theorem qqL {w:World} {s:Sl Pk} (hs:Pks w s) {p q:Int} (h:qas s.xs ⟨p,q⟩=true) : ∃(k j:Nat) (y:Pk) (c:Cl),p=k∧q=j∧s.xs[k]? = some y∧y.classes.xs[j]? = some c∧clE s.xs ⟨p,q⟩=some c∧Pk.Ok w y:=by
 unfold qas at h;cases hc:clE s.xs ⟨p,q⟩ with
 | none=>rw[hc]at h;cases h
 | some c =>
  obtain⟨y,h1,h2,h3,h4,h5,h6⟩:=qaY hc;simp only at h1 h2 h3 h4 h5 h6;exact⟨p.toNat,q.toNat,y,c,by omega,by omega,h3,h6,rfl,(hs.at_ _ y h3).1⟩
theorem qln {L:List Pk} {r:Rf} (h1:r≠shr) (h:qas L r=false):qag L r=false:=by
 unfold qas at h;unfold qag;cases hc:clE L r with
 | none=>simp[h1]
 | some c=>rw[hc]at h;cases h
theorem qlZ {L:List Pk} {r:Rf} {c:Cl} (h1:r≠shr) (h:clE L r=some c):qag L r=c.isI:=by
 unfold qag;rw[h];simp[h1]
theorem qtu {p q:Int} (h1:(⟨p,q⟩:Rf)≠obj) (h2:(⟨p,q⟩:Rf)≠shr) : ¬ p=255∨(p=255∧¬ q=0∧¬ q=1):=by
 by_cases h:p=255
 ·subst h;exact .inr ⟨rfl,fun e=>h1 (by rw[e]),fun e=>h2 (by rw[e])⟩
 ·exact .inl h
end Go.Proofs.YtkkddfebhbcdjaaGreatDoor
end
section
namespace Go.Proofs.YtkkddfebhbcdjaaGreatDoor
open Go.ChangeShapes Go.WideShapes Go.ChangeAt Go.RowKit Go.Sc
theorem qv6:(Tryz.prog.info? 44).map (fun i=>(i.zero,i.size,i.bytes))=some (some (.agg #[Z 0,Z 0]),2,16):=by kernel_rfl
theorem qvd:(Tryz.prog.info? 46).map (fun i=>(i.zero,i.size,i.bytes))=some (some (.agg #[Z 0,Z 0,Z 0]),3,24):=by kernel_rfl
abbrev qgB (w:World) (B:Nat) (v:Value) (xs:List Rf):Prop:=Own eN 2 44 w B v xs
abbrev qcK (w:World) (B:Nat) (v:Value) (xs:List Ty):Prop:=Own eT 3 46 w B v xs
section
variable (w:World) {ops:Array Oper} {rest:List Oper} {o:Oper} {a:Act} {Q:Exit→Act→World→Prop}
theorem qfr (hgd:o.guard=none) (s x:Operand) (ho:o.op = .call { callee:=.builtin .append,args:=#[s,x],argTypes:=#[117,117] })
  (B:Nat) (v:Value) (pre:List Rf) (hs:a.eval s=v) (hown:Hid (qgB w B v pre)) (A:Option Addr) (C n:Nat) (xs:List Rf) (hl:Hid ((⟨A,C,xs⟩:Sl Rf).Ok eN 2 w)) (hn:xs.length=n)
  (hx:a.eval x = .slice A n C) (hlen:pre.length+n≤1000000) (hbase:B≤w.heap.size)
  (h : ∀ y:Ax v w,Hid (qgB y.val B y.v' (pre ++ xs))→wpList Tryz.prog ops Q rest (a.put o.dst y.v') y.val):wpList Tryz.prog ops Q (o :: rest) a w:=by
 subst hn;exact wpList_plain hgd fun _ hK=>qhH w s x 117 ho B 44 _ 2 16 Tryz.underlying117 qv6 rfl (by decide) (by decide) eN v pre hs hown ⟨A,C,xs⟩ hl qqV hx (by simp only;omega) hbase fun y hy=>hK _ _ (h y hy)
theorem qdP (hgd:o.guard=none) (s x:Operand) (ho:o.op = .call { callee:=.builtin .append,args:=#[s,x],argTypes:=#[38,38] })
  (B:Nat) (v:Value) (pre:List Ty) (hs:a.eval s=v) (hown:Hid (qcK w B v pre)) (A:Option Addr) (C n:Nat) (xs:List Ty) (hl:Hid ((⟨A,C,xs⟩:Sl Ty).Ok eT 3 w)) (hn:xs.length=n)
  (hx:a.eval x = .slice A n C) (hlen:pre.length+n≤1000000) (hbase:B≤w.heap.size)
  (h : ∀ y:Ax v w,Hid (qcK y.val B y.v' (pre ++ xs))→wpList Tryz.prog ops Q rest (a.put o.dst y.v') y.val):wpList Tryz.prog ops Q (o :: rest) a w:=by
 subst hn;exact wpList_plain hgd fun _ hK=>qhH w s x 38 ho B 46 _ 3 24 Tryz.underlying38 qvd rfl (by decide) (by decide) eT v pre hs hown ⟨A,C,xs⟩ hl qoS hx (by simp only;omega) hbase fun y hy=>hK _ _ (h y hy)
theorem qjl {K:Act→World→Prop} {E:Prop} (hgd:o.guard=none) (s x:Operand) (ho:o.op = .call { callee:=.builtin .append,args:=#[s,x],argTypes:=#[38,38] })
  (B:Nat) (v:Value) (pre:List Ty) (hs:a.eval s=v) (hown:Hid (qcK w B v pre)) (A:Option Addr) (C n:Nat) (xs:List Ty) (hl:Hid ((⟨A,C,xs⟩:Sl Ty).Ok eT 3 w)) (hn:xs.length=n)
  (hx:a.eval x = .slice A n C) (hlen:pre.length+n≤1000000) (hbase:B≤w.heap.size)
  (h : ∀ y:Ax v w,Hid (qcK y.val B y.v' (pre ++ xs))→K (a.put o.dst y.v') y.val):if Region.wanted o (yielded ops a.tmps)=true then Oper.wp Tryz.prog o a w K Q else E:=by
 subst hn;rw[if_pos (show Region.wanted o (yielded ops a.tmps)=true by simp[Region.wanted,hgd])];exact qhH w s x 38 ho B 46 _ 3 24 Tryz.underlying38 qvd rfl (by decide) (by decide) eT v pre hs hown ⟨A,C,xs⟩ hl qoS hx (by simp only;omega) hbase h
end
theorem qkB {L:List Pk} (h:Few L) (r:Rf):(qaq L r).length≤322:=by
 have h1 : ∀(n:Nat) (r:Rf),(qdR L n r).length≤n:=by
  intro n
  induction n with
  | zero=>intro r;simp[qdR]
  | succ n ih =>
   intro r;rw[qdR,List.length_cons]
   split
   ·simp
   ·have:=ih (qaw L r);omega
 have h2 : ∀ M:List Pk,(∀ p∈M,FewP p)→(M.map fun p:Pk=>p.classes.xs.length).sum≤40 * M.length:=by
  intro M
  induction M with
  | nil=>simp
  | cons p M ih =>
   intro hM;have:=ih fun q hq=>hM q (by simp[hq])
   have h3:=(hM p (by simp)).classes;simp only[List.map_cons,List.sum_cons,List.length_cons];omega
 have:=h1 (ql6 L) r;have h4:=h2 L h.all;have h5:=h.len;unfold qaq;unfold ql6 at this ⊢;omega
end Go.Proofs.YtkkddfebhbcdjaaGreatDoor
end
section
namespace Go.Proofs.YtkkddfebhbcdjaaGreatDoor
open Go.ChangeShapes Go.WideShapes Go.ChangeAt Go.RowKit Go.Sc


def qbN (L:List Pk) (s:Rf):List Ty:=match clE L s with|some c=>qfN L s.p c.fields.xs|none=>[]
theorem qhF {L:List Pk} (h:Few L) (s:Rf):(qbN L s).length≤40:=by
 unfold qbN;cases hc:clE L s with
 | none=>simp
 | some c =>
  obtain⟨p,_,_,h3,_,_,h6⟩:=qaY hc;have:=((h.all p (List.mem_of_getElem? h3)).cls c (List.mem_of_getElem? h6)).fields;simp only[qfN,List.length_map];exact this
theorem qjH {α β:Type} {f:α→List β} {m:Nat} : ∀ {l:List α},(∀ x,(f x).length≤m)→(l.flatMap f).length≤m * l.length
 | [],_=>by simp
 | x :: l,h=>by
  have:=qjH (l:=l) h;have h1:=h x;rw[List.flatMap_cons,List.length_append,List.length_cons,Nat.mul_succ];omega
def qbw (L:List Pk) (r:Rf):Bool:=qae L r && (!qag L r && !qcd L r)
end Go.Proofs.YtkkddfebhbcdjaaGreatDoor
end
section
namespace Go.Proofs.YtkkddfebhbcdjaaGreatDoor
open Go.Sc
structure St where
 lo:List Ty
 sk:List Ty
deriving DecidableEq
abbrev kT (k:Int):Ty:=⟨k,⟨0,0⟩⟩
def qbe (i:In) (n:Int):List Int :=
 if ¬ qca i=0∨n<0∨256≤n∨i.op=49∨i.op=50 then []
 else if i.op=21 then [i.a]
 else if i.op<22∨32<i.op∨i.a=n+1 then [n+1]
 else if i.a<n+1 then [i.a,n+1] else [n+1,i.a]
def qhY (n:Int):Option Sg :=
 if n=0∨n=1∨n=2∨n=13∨n=14 then some ⟨[],kT 0⟩
 else if n=3∨n=4∨n=9∨n=12 then some ⟨[],kT 1⟩
 else if n=5 then some ⟨[],kT 2⟩
 else if n=6 then some ⟨[kT 1,kT 1],kT 0⟩
 else if n=7 then some ⟨[kT 1,kT 1],kT 2⟩
 else if n=8 then some ⟨[kT 1,kT 1],kT 3⟩
 else if n=10 then some ⟨[kT 2,kT 1],qbf⟩
 else if n=11 then some ⟨[kT 1,kT 1,kT 1],kT 1⟩
 else none
def qmg (L:List Pk) (r:Rf) (n:Int):Ty:=((nth (qav L r) n)).getD (kT 0)
def qkW (L:List Pk) (n:Int):Ty:=(((nth L 0).bind fun p=>nth p.statics.xs n)).getD (kT 0)
def qhe (s:St):Except Int (Ty × St) :=
 match s.sk.getLast? with
 | none=>.error 5
 | some t=>.ok (t,⟨s.lo,s.sk.dropLast⟩)
def tkE (L:List Pk) (ps:List Ty) (s:St):Except Int St :=
 if s.sk.length<ps.length then .error 5
 else if ((s.sk.drop (s.sk.length - ps.length)).zip ps).any (fun y=>!qil L y.1 y.2)=true then .error 22
 else .ok ⟨s.lo,s.sk.take (s.sk.length - ps.length)⟩
def rfE (n:Nat) (s:St):Except Int St :=
 if s.sk.length<n then .error 5
 else if (s.sk.drop (s.sk.length - n)).any (fun t=>!qeD t)=true then .error 22
 else .ok ⟨s.lo,s.sk.take (s.sk.length - n)⟩
def qaN (x:Me) (l:List Ty) (s:St):Except Int St:=if x.stack<((s.sk ++ l).length:Int) then .error 3 else .ok ⟨s.lo,s.sk ++ l⟩
def ql8 (x:Me) (t:Ty) (s:St):Except Int St:=if t.k=0 then .ok s else qaN x [t] s
def qlH (L:List Pk) (x:Me) (ps:List Ty) (g:Option Sg) (s:St):Except Int St :=
 match g with
 | some g=>(tkE L (ps ++ g.ps) s).bind (ql8 x g.res)
 | none=>.error 0
def qbp (L:List Pk) (x:Me) (s:St) (i:In):Except Int St :=
 if i.op=34 then (tkE L [kT 1] s).bind (qaN x [kT i.a])
 else if i.op=35 then (qhe s).bind fun y=>if (2≤y.1.k∧y.1.k≤4)∨y.1=kT 6 then qaN x [kT 1] y.2 else .error 22
 else if i.op=36∨i.op=38 then (tkE L [kT (if i.op=36 then 2 else 3),kT 1] s).bind (qaN x [kT 1])
 else if i.op=37∨i.op=39 then tkE L [kT (if i.op=37 then 2 else 3),kT 1,kT 1] s
 else if i.op=40 then (tkE L [kT 4,kT 1] s).bind (qaN x [qbf])
 else if i.op=41 then tkE L [kT 4,kT 1,qbf] s
 else if i.op=42 then (tkE L [⟨5,⟨i.a,i.b⟩⟩] s).bind (qaN x [qmg L ⟨i.a,i.b⟩ i.c])
 else if i.op=43 then tkE L [⟨5,⟨i.a,i.b⟩⟩,qmg L ⟨i.a,i.b⟩ i.c] s
 else if i.op=44 then qaN x [qkW L i.a] s
 else if i.op=45 then tkE L [qkW L i.a] s
 else if i.op=46 then qlH L x [] (qbS L i.a i.b) s
 else if i.op=47∨i.op=48 then qlH L x [⟨5,⟨i.a,i.b⟩⟩] (qaI L ⟨i.a,i.b⟩ i.c) s
 else if i.op=53 then qlH L x [] (qhY i.a) s
 else (tkE L [kT 1,kT 1] s).bind (qaN x [kT 1])
def qak (L:List Pk) (x:Me) (s:St) (i:In):Except Int St :=
 if i.op=0∨i.op=21 then .ok s
 else if i.op=1 then qaN x [kT 1] s
 else if i.op=2 then qaN x [kT 6] s
 else if i.op=3 then (match nth s.lo i.a with|some t=>if t=qbH then .error 22 else qaN x [t] s|none=>.error 0)
 else if i.op=4 then (qhe s).bind fun y=>if y.1=qbH then .error 22 else .ok ⟨y.2.lo.set i.a.toNat y.1,y.2.sk⟩
 else if i.op=5 then (if nth s.lo i.a=some (kT 1) then .ok s else .error 22)
 else if i.op=6 then (qhe s).bind fun y=>.ok y.2
 else if i.op=7 then (qhe s).bind fun y=>qaN x [y.1,y.1] y.2
 else if i.op=8 then (if s.sk.length<2 then .error 5 else (qhe s).bind fun y=>(qhe y.2).bind fun z=>qaN x [y.1,z.1] z.2)
 else if i.op=14 then (tkE L [kT 1] s).bind (qaN x [kT 1])
 else if i.op=22∨i.op=23∨i.op=24∨i.op=50 then tkE L [kT 1] s
 else if i.op=25∨i.op=26∨i.op=27∨i.op=28 then tkE L [kT 1,kT 1] s
 else if i.op=29∨i.op=30 then rfE 1 s
 else if i.op=31∨i.op=32 then rfE 2 s
 else if i.op=33 then qaN x [⟨5,⟨i.a,i.b⟩⟩] s
 else if i.op=51 then (rfE 1 s).bind (qaN x [⟨5,⟨i.a,i.b⟩⟩])
 else if i.op=52 then (rfE 1 s).bind (qaN x [kT 1])
 else if i.op=49 then (if x.result.k=0 then .ok s else tkE L [x.result] s)
 else qbp L x s i
structure Sok (n:Nat) (m:Int) (T:Ty→Prop) (s:St):Prop where
 len:s.lo.length=n
 mx:(s.sk.length:Int)≤m
 lo : ∀ t∈s.lo,T t
 sk : ∀ t∈s.sk,T t
structure Src (L:List Pk) (T:Ty→Prop) (i:In):Prop where
 k : ∀ k,T (kT k)
 whole:T qbf
 own:T ⟨5,⟨i.a,i.b⟩⟩
 fld:T (qmg L ⟨i.a,i.b⟩ i.c)
 stc:T (qkW L i.a)
 sig : ∀ g,qbS L i.a i.b=some g∨qaI L ⟨i.a,i.b⟩ i.c=some g∨qhY i.a=some g→T g.res
def Lok (n:Nat) (m:Int) (T:Ty→Prop) (r:Except Int St):Prop:=∀ t,r = .ok t→Sok n m T t
section
variable {n:Nat} {m:Int} {T:Ty→Prop} {L:List Pk} {x:Me} {s:St}
theorem Lok.ok (h:Sok n m T s):Lok n m T (.ok s):=fun t e=>by cases e;exact h
theorem Lok.err {e:Int}:Lok n m T (.error e):=fun t h=>by cases h
theorem Lok.bind {r:Except Int St} {f:St→Except Int St} (h:Lok n m T r) (k : ∀ s:St,Sok n m T s→Lok n m T (f s)):Lok n m T (r.bind f):=by
 cases r with
 | error e=>exact Lok.err
 | ok s=>exact k s (h s rfl)
theorem Lok.ite {c:Prop} [Decidable c] {a b:Except Int St} (h:Lok n m T a) (k:Lok n m T b):Lok n m T (if c then a else b):=by split;exact h;exact k
theorem qet {f:Ty × St→Except Int St} (h:Sok n m T s) (k : ∀ t (u:St),T t→Sok n m T u→Lok n m T (f (t,u))):Lok n m T ((qhe s).bind f):=by
 unfold qhe
 split
 ·exact Lok.err
 ·rename_i t ht;exact k t _ (h.sk t (List.mem_of_getLast? ht)) ⟨h.len,by have:=h.mx;simp;omega,h.lo,fun u hu=>h.sk u (List.dropLast_subset _ hu)⟩
theorem qkE {l:List Ty} (hm:x.stack≤m) (h:Sok n m T s) (hl : ∀ t∈l,T t):Lok n m T (qaN x l s):=by
 unfold qaN
 split
 ·exact Lok.err
 ·exact Lok.ok ⟨h.len,by simp only;omega,h.lo,fun t ht=>by rcases List.mem_append.1 ht with ht|ht;exact h.sk t ht;exact hl t ht⟩
theorem qbU {t:Ty} (hm:x.stack≤m) (h:Sok n m T s) (ht:T t):Lok n m T (qaN x [t] s):=qkE hm h fun u hu=>by simp at hu;rw[hu];exact ht
theorem qmq {t u:Ty} (hm:x.stack≤m) (h:Sok n m T s) (ht:T t) (hu:T u):Lok n m T (qaN x [t,u] s):=qkE hm h fun v hv=>by
 simp at hv;rcases hv with rfl|rfl
 ·exact ht
 ·exact hu
theorem qe3 {l:List Ty} (h:Sok n m T s):Lok n m T (tkE L l s):=by
 unfold tkE;exact Lok.ite Lok.err (Lok.ite Lok.err (Lok.ok ⟨h.len,by have:=h.mx;simp;omega,h.lo,fun t ht=>h.sk t (List.mem_of_mem_take ht)⟩))
theorem qmF {k:Nat} (h:Sok n m T s):Lok n m T (rfE k s):=by
 unfold rfE;exact Lok.ite Lok.err (Lok.ite Lok.err (Lok.ok ⟨h.len,by have:=h.mx;simp;omega,h.lo,fun t ht=>h.sk t (List.mem_of_mem_take ht)⟩))
theorem qjd {l:List Ty} {g:Option Sg} (hm:x.stack≤m) (h:Sok n m T s) (hg : ∀ u,g=some u→T u.res):Lok n m T (qlH L x l g s):=by
 unfold qlH
 split
 ·refine(qe3 h).bind fun u hu=>?_
  unfold ql8;exact Lok.ite (Lok.ok hu) (qbU hm hu (hg _ rfl))
 ·exact Lok.err
theorem qsg {i:In} (hm:x.stack≤m) (h:Sok n m T s) (S:Src L T i):Lok n m T (qbp L x s i):=by
 unfold qbp
 repeat' first
  | exact qe3 h
  | exact qbU hm h S.stc
  | exact qjd hm h fun u hu=>S.sig u (.inl hu)
  | exact qjd hm h fun u hu=>S.sig u (.inr (.inl hu))
  | exact qjd hm h fun u hu=>S.sig u (.inr (.inr hu))
  | exact(qe3 h).bind fun u hu=>qbU hm hu (S.k _)
  | exact(qe3 h).bind fun u hu=>qbU hm hu S.whole
  | exact(qe3 h).bind fun u hu=>qbU hm hu S.fld
  | exact qet h fun t u _ hu=>Lok.ite (qbU hm hu (S.k _)) Lok.err
  | refine Lok.ite ?_ ?_
theorem qgA {i:In} (hm:x.stack≤m) (h:Sok n m T s) (S:Src L T i):Lok n m T (qak L x s i):=by
 unfold qak
 repeat' first
  | exact Lok.ok h
  | exact Lok.err
  | exact qbU hm h (S.k _)
  | exact qbU hm h S.own
  | exact qe3 h
  | exact qmF h
  | exact qsg hm h S
  | exact(qe3 h).bind fun u hu=>qbU hm hu (S.k _)
  | exact(qmF h).bind fun u hu=>qbU hm hu S.own
  | exact(qmF h).bind fun u hu=>qbU hm hu (S.k _)
  | exact qet h fun t u ht hu=>Lok.ite Lok.err (Lok.ok ⟨by simp[hu.len],hu.mx,fun v hv=>(List.mem_or_eq_of_mem_set hv).elim (hu.lo v) (fun e=>e ▸ ht),hu.sk⟩)
  | exact qet h fun t u _ hu=>Lok.ok hu
  | exact qet h fun t u ht hu=>qmq hm hu ht ht
  | exact qet h fun t u ht hu=>qet (f:=fun z=>qaN x [t,z.1] z.2) hu fun t' u' ht' hu'=>qmq hm hu' ht ht'
  |(rename_i t ht;exact Lok.ite Lok.err (qbU hm h (h.lo t (List.mem_of_getElem? (qaB ht).2.2))))
  | refine Lok.ite ?_ ?_
  | split
end
structure An where
 K:List (Option St)
 P:List Bool
def qar (L:List Pk) (a b:List Ty):List Ty:=List.zipWith (qbP L) a b
def qbh (L:List Pk) (A:An) (k:Nat) (s:St):Option An :=
 match (A.K[k]?).join with
 | none=>some ⟨A.K.set k (some s),A.P.set k true⟩
 | some o=>if o.sk.length=s.sk.length then some ⟨A.K.set k (some ⟨qar L o.lo s.lo,qar L o.sk s.sk⟩),A.P.set k ((A.P[k]?).getD false || !decide ((⟨qar L o.lo s.lo,qar L o.sk s.sk⟩:St)=o))⟩ else none
def qa6 (L:List Pk) (s:St):List Int→An→Option An
 | [],A=>some A
 | n :: r,A=>(qbh L A n.toNat s).bind (qa6 L s r)
def qbK (L:List Pk) (x:Me) (n:Nat) (lo:List Ty):List Hd→An→Except Int An
 | [],A=>.ok A
 | h :: r,A =>
  if (n:Int)<h.f∨h.t≤n then qbK L x n lo r A
  else if x.stack=0 then .error 3
  else match qbh L A h.g.toNat ⟨lo,[kT 1]⟩ with
   | none=>.error 22
   | some B=>qbK L x n lo r B
def qd5 (L:List Pk) (x:Me) (A:An) (n:Nat) (s:St) (i:In):Except Int An :=
 match qak L x s i with
 | .error e=>.error e
 | .ok t=>match qa6 L t (qbe i n) ⟨A.K,A.P.set n false⟩ with
  | none=>.error 22
  | some B=>qbK L x n s.lo x.hs.xs B
def goE (L:List Pk) (x:Me):Nat→An→Option (Except (Int × Nat) An)
 | 0,_=>none
 | f+1,A=>match A.P.findIdx? id with
  | none=>some (.ok A)
  | some n=>match (A.K[n]?).join,x.code.xs[n]? with
   | some s,some i=>match qd5 L x A n s i with
    | .error e=>some (.error (e,n))
    | .ok B=>goE L x f B
   | _,_=>none
def stB (L:List Pk) (a:Int):Bool:=match L[0]? with|some p=>decide (a<p.statics.xs.length)|none=>false
def qat (L:List Pk) (i:In):Bool :=
 let r:Rf:=⟨i.a,i.b⟩
 if i.op=33 then qae L r && !qag L r
 else if i.op=51∨i.op=52 then qae L r
 else if i.op=42∨i.op=43 then qbw L r && decide (i.c<(qav L r).length)
 else if i.op=44∨i.op=45 then stB L i.a
 else if i.op=46 then (qbS L i.a i.b).isSome
 else if i.op=47 then (qaI L r i.c).isSome && (qae L r && !qag L r)
 else if i.op=48 then (qaI L r i.c).isSome && (qae L r && qag L r)
 else true
def qbR (L:List Pk) (x:Me) (n:Nat) (i:In):Int :=
 if (i.op=3∨i.op=4∨i.op=5)∧x.locals≤i.a then 2
 else if (qbe i n).any (fun m=>decide ((x.code.xs.length:Int)≤m))=true then 2
 else if qat L i=true then 0 else 23
def qbl (L:List Pk) (x:Me):Nat→List In→Int × Nat
 | _,[]=>(0,0)
 | n,i :: r=>if qbR L x n i=0 then qbl L x (n+1) r else (qbR L x n i,n)
def qs1 (n:Int) (l:List Ty):List Ty:=l ++ List.replicate (n.toNat - l.length) (kT 7)
def qbn (x:Me):St:=⟨qs1 x.locals ((if x.static=true then [] else [⟨5,⟨0,x.cls⟩⟩]) ++ x.params.xs),[]⟩
def An0 (x:Me):An:=⟨(List.replicate x.code.xs.length none).set 0 (some (qbn x)),(List.replicate x.code.xs.length false).set 0 true⟩
structure Ft where
 c:Int
 m:Int
 n:Int
deriving DecidableEq
abbrev qnz:Ft:=⟨0,-1,-1⟩
def qaS (L:List Pk) (m:Int) (r:Except (Int × Nat) An):Option (List (Option St)) × Ft :=
 match (L[0]?).bind fun p=>nth p.methods.xs m with
 | none=>(none,⟨2,-1,-1⟩)
 | some x =>
  if x.abs=true then (none,qnz)
  else if (qbl L x 0 x.code.xs).1=0 then
   match r with
   | .ok A=>(some A.K,qnz)
   | .error e=>(none,⟨e.1,m,e.2⟩)
  else (none,⟨(qbl L x 0 x.code.xs).1,m,(qbl L x 0 x.code.xs).2⟩)
theorem qjk {L:List Pk} {x:Me} {r:Except (Int × Nat) An} : ∀ {f g:Nat} {A:An},goE L x f A=some r→f≤g→goE L x g A=some r
 | 0,_,_,h,_=>by cases h
 | f+1,0,_,_,h=>by omega
 | f+1,g+1,A,h,hg=>by
  rw[goE]at h ⊢;cases hp:A.P.findIdx? id with
  | none=>rw[hp]at h;exact h
  | some n =>
   rw[hp]at h;simp only at h ⊢;cases hs:(A.K[n]?).join with
   | none=>rw[hs]at h;cases h
   | some s =>
    cases hi:x.code.xs[n]? with
    | none=>rw[hs,hi]at h;cases h
    | some i =>
     rw[hs,hi]at h;simp only at h ⊢;cases hr:qd5 L x A n s i with
     | error e=>rw[hr]at h;exact h
     | ok B=>rw[hr]at h;exact qjk h (by omega)
theorem qmT {L:List Pk} {x:Me} {r s:Except (Int × Nat) An} {f g:Nat} {A:An} (h:goE L x f A=some r) (k:goE L x g A=some s):r=s:=by
 have h1:=qjk h (Nat.le_max_left f g);have h2:=qjk k (Nat.le_max_right f g);rw[h1]at h2;exact Option.some.inj h2
end Go.Proofs.YtkkddfebhbcdjaaGreatDoor
end
section
namespace Go.Proofs.YtkkddfebhbcdjaaGreatDoor
open Go.Sc
def rkT (L:List Pk) (t:Ty):Nat:=if t=qbH then 0 else if t.k=5 then 1+(qaq L t.c).length else if t.k=6 then ql6 L+5 else ql6 L+3
theorem qmU (L:List Pk) : ∀(n:Nat) (r:Rf),(qdR L n r).length≤n
 | 0,_=>Nat.le_refl _
 | n+1,r=>by
  rw[qdR]
  split
  ·simp
  ·have:=qmU L n (qaw L r);simp;omega
theorem qtj {L:List Pk} {a:Ty} (h:a≠qbH):0<rkT L a:=by
 unfold rkT;rw[if_neg h]
 split
 ·omega
 ·split <;> omega
theorem qpJ {L:List Pk} (F:Fits L):rkT L qbf=2:=by
 unfold rkT;rw[if_neg (by decide),if_pos rfl,qjB F]
 rfl
theorem qiP {L:List Pk} (F:Fits L) {a:Ty} (h:2≤a.k) (h2:a.k≤5):qbf=a∨rkT L qbf<rkT L a:=by
 rw[qpJ F];by_cases e:a.k=5
 ·by_cases eo:a.c=obj
  ·left;obtain⟨k,c⟩:=a;simp only at e eo;rw[e,eo]
  ·right;unfold rkT;rw[if_neg (by rintro rfl;simp at e),if_pos e,qaE F,if_neg eo];have:=List.length_pos_iff.2 (qdF F (qaw L a.c));simp;omega
 ·right;unfold rkT ql6;rw[if_neg (by rintro rfl;simp at h2),if_neg e]
  split <;> omega
theorem qr0 {L:List Pk} (F:Fits L) (a b:Ty):qbP L a b=a∨rkT L (qbP L a b)<rkT L a:=by
 have h0:qbH=a∨rkT L qbH<rkT L a:=by
  by_cases e:a=qbH
  ·exact .inl e.symm
  ·right;have:=qtj (L:=L) e;unfold rkT;rw[if_pos rfl];exact this
 unfold qbP
 split
 ·exact h0
 ·rename_i hr
  split
  ·exact .inl rfl
  ·rename_i hab
   split
   ·exact h0
   ·rename_i hf;have fa:2≤a.k∧a.k≤6:=by
     have:qeD a=true:=by cases h:qeD a <;> simp_all
     unfold qeD at this;simpa using this
    have fb:2≤b.k∧b.k≤6:=by
     have:qeD b=true:=by cases h:qeD b <;> simp_all
     unfold qeD at this;simpa using this
    have ra:qaK L a=true:=by cases h:qaK L a <;> simp_all
    have rb:qaK L b=true:=by cases h:qaK L b <;> simp_all
    split
    ·rename_i h6;right;have hb6:b.k≠6:=by
      intro e;unfold qaK at ra rb;rw[if_neg (by omega)]at ra rb;simp only[Bool.and_eq_true,decide_eq_true_eq]at ra rb;obtain⟨ka,ca⟩:=a;obtain⟨kb,cb⟩:=b;simp only at h6 e ra rb;exact hab (by rw[h6,e,ra.2.2,rb.2.2])
     have hl:=qmU L (ql6 L) b.c;unfold rkT;rw[if_neg (show ¬ b=qbH by rintro rfl;simp at fb),if_neg (show ¬ a=qbH by rintro rfl;simp at fa),if_neg (show ¬ a.k=5 by omega),if_pos h6]
     split
     ·unfold qaq;omega
     ·omega
    ·rename_i h6
     split
     ·exact .inl rfl
     ·split
      ·rename_i h5;obtain⟨y,hy,hm,_⟩:=qkR F a.c b.c;rw[hy];simp only;by_cases e:y=a.c
       ·left;obtain⟨ka,ca⟩:=a;simp only at e h5;rw[e,h5.1]
       ·right;obtain⟨pre,hp⟩:=qio F _ a.c y (Nat.le_refl _) hm;have hpre:0<pre.length:=by
         cases pre with
         | nil=>rw[qaE F a.c,qaE F y]at hp;simp at hp;exact absurd hp.1.symm e
         | cons=>simp
        have:=congrArg List.length hp;rw[List.length_append]at this;unfold rkT;rw[if_neg (show ¬(⟨5,y⟩:Ty)=qbH by simp),if_pos rfl,if_neg (show ¬ a=qbH by rintro rfl;simp at h5),if_pos h5.1];simp only;omega
      ·exact qiP F fa.1 (by omega)
theorem qbZ {α:Type} (f:α→Nat) : ∀ {l:List α} {k:Nat} {o:α} (y:α),l[k]? = some o→((l.set k y).map f).sum+f o=(l.map f).sum+f y
 | [],k,o,y,h=>by simp at h
 | a :: l,0,o,y,h=>by simp at h;subst h;simp;omega
 | a :: l,k+1,o,y,h=>by
  have:=qbZ f (l:=l) (k:=k) y (by simpa using h);simp at this ⊢;omega
def rkL (L:List Pk) (l:List Ty):Nat:=(l.map (rkT L)).sum
def rkO (L:List Pk):Option St→Nat
 | none=>0
 | some s=>rkL L s.lo+rkL L s.sk
def cN:Option St→Nat
 | none=>1
 | some _=>0
def cP:Bool→Nat
 | true=>1
 | false=>0
def nn (A:An):Nat:=(A.K.map cN).sum
def rkA (L:List Pk) (A:An):Nat:=(A.K.map (rkO L)).sum
def np (A:An):Nat:=(A.P.map cP).sum
theorem qeh {L:List Pk} (F:Fits L) : ∀(a b:List Ty),a.length=b.length→qar L a b=a∨rkL L (qar L a b)<rkL L a
 | [],[],_=>.inl rfl
 | x :: a,y :: b,h=>by
  have h1:=qr0 F x y;have h2:=qeh F a b (by simpa using h);unfold qar rkL at *;simp only[List.zipWith_cons_cons,List.map_cons,List.sum_cons];rcases h1 with h1|h1
  ·rcases h2 with h2|h2
   ·left;rw[h1,h2]
   ·right;rw[h1];omega
  ·right;rcases h2 with h2|h2
   ·rw[h2];omega
   ·omega
structure InvA (x:Me) (N:Nat) (A:An):Prop where
 lk:A.K.length=x.code.xs.length
 lp:A.P.length=x.code.xs.length
 lo : ∀(k:Nat) (s:St),A.K[k]? = some (some s)→s.lo.length=N
 pd : ∀ k:Nat,A.P[k]? = some true→∃ s,A.K[k]? = some (some s)
def qqa (L:List Pk) (B A:An):Prop:=nn B<nn A∨(nn B=nn A∧rkA L B<rkA L A)
theorem qqa.trans {L:List Pk} {A B C:An} (h:qqa L C B) (k:qqa L B A):qqa L C A:=by
 unfold qqa at *;omega
theorem qbW {α:Type} {o:Option (Option α)} {s:α}:o.join=some s↔o=some (some s):=by
 cases o with
 | none=>simp
 | some o=>cases o <;> simp
theorem qmk {x:Me} {N:Nat} {A:An} (h:InvA x N A) {k:Nat} {s:St} {b:Bool} (hs:s.lo.length=N):InvA x N ⟨A.K.set k (some s),A.P.set k b⟩ where
 lk:=by simp[h.lk]
 lp:=by simp[h.lp]
 lo:=fun j t ht=>by
  simp only[List.getElem?_set]at ht
  split at ht
  ·split at ht
   ·cases ht;exact hs
   ·cases ht
  ·exact h.lo j t ht
 pd:=fun j hj=>by
  have h1:=h.lk;have h2:=h.lp;simp only[List.getElem?_set]at hj ⊢
  split at hj
  ·rename_i e
   split at hj
   ·rw[if_pos e,if_pos (by omega)];exact⟨s,rfl⟩
   ·cases hj
  ·rename_i e;rw[if_neg e];exact h.pd j hj
theorem qjC {L:List Pk} (F:Fits L) {x:Me} {N:Nat} {A B:An} {k:Nat} {s:St} (h:InvA x N A) (hs:s.lo.length=N) (hf:qbh L A k s=some B):InvA x N B∧(B=A∨qqa L B A):=by
 unfold qbh at hf;cases hk:(A.K[k]?).join with
 | none =>
  rw[hk]at hf;cases hf;refine⟨qmk h hs,?_⟩;cases ho:A.K[k]? with
  | none =>
   left;have h1:=List.getElem?_eq_none_iff.1 ho;have h2:=h.lk;have h3:=h.lp;rw[List.set_eq_of_length_le h1,List.set_eq_of_length_le (by omega)]
  | some o =>
   rw[ho]at hk;obtain rfl:o=none:=by cases o with|none=>rfl|some _=>simp at hk
   right;left;have:=qbZ cN (some s) ho;unfold nn;simp only[cN]at this ⊢;omega
 | some o =>
  rw[hk]at hf;have ho:=qbW.1 hk;have hlo:=h.lo k o ho;simp only at hf
  split at hf
  ·rename_i hl;cases hf;have hj:(qar L o.lo s.lo).length=N:=by unfold qar;simp;omega
   refine⟨qmk h hj,?_⟩;rcases qeh F o.lo s.lo (by omega) with e1|e1
   ·rcases qeh F o.sk s.sk hl with e2|e2
    ·left;rw[e1,e2];obtain⟨hkl,hke⟩:=List.getElem?_eq_some_iff.1 ho;have hkp:k<A.P.length:=by have:=h.lk;have:=h.lp;omega
     have g1:A.K.set k (some ⟨o.lo,o.sk⟩)=A.K:=by
      apply List.ext_getElem?;intro j;rw[List.getElem?_set]
      split
      ·rename_i e;subst e;rw[ho]
      ·rfl
     have g2:A.P.set k ((A.P[k]?).getD false || !decide ((⟨o.lo,o.sk⟩:St)=o))=A.P:=by
      apply List.ext_getElem?;intro j;rw[List.getElem?_set]
      split
      ·rename_i e;subst e;rw[List.getElem?_eq_getElem hkp];simp
      ·rfl
     rw[g1,g2]
    ·right;right;have a1:=qbZ cN (some ⟨qar L o.lo s.lo,qar L o.sk s.sk⟩) ho;have a2:=qbZ (rkO L) (some ⟨qar L o.lo s.lo,qar L o.sk s.sk⟩) ho;simp only[rkO,cN]at a1 a2;rw[e1]at a1 a2;unfold nn rkA;simp only[e1];omega
   ·right;right;have e3:rkL L (qar L o.sk s.sk)≤rkL L o.sk:=by
     rcases qeh F o.sk s.sk hl with e2|e2
     ·rw[e2];exact Nat.le_refl _
     ·omega
    have a1:=qbZ cN (some ⟨qar L o.lo s.lo,qar L o.sk s.sk⟩) ho;have a2:=qbZ (rkO L) (some ⟨qar L o.lo s.lo,qar L o.sk s.sk⟩) ho;simp only[rkO,cN]at a1 a2;unfold nn rkA;simp only;omega
  ·cases hf
theorem qhu {L:List Pk} (F:Fits L) {x:Me} {N:Nat} {s:St} (hs:s.lo.length=N) : ∀ {l:List Int} {A B:An},InvA x N A→qa6 L s l A=some B→InvA x N B∧(B=A∨qqa L B A)
 | [],A,B,h,hf=>by cases hf;exact⟨h,.inl rfl⟩
 | n :: l,A,B,h,hf=>by
  rw[qa6]at hf;cases h1:qbh L A n.toNat s with
  | none=>rw[h1]at hf;cases hf
  | some C =>
   rw[h1]at hf;obtain⟨i1,l1⟩:=qjC F h hs h1;obtain⟨i2,l2⟩:=qhu F hs i1 hf;refine⟨i2,?_⟩;rcases l1 with rfl|l1
   ·exact l2
   ·rcases l2 with rfl|l2
    ·exact .inr l1
    ·exact .inr (l2.trans l1)
theorem qgV {L:List Pk} (F:Fits L) {x:Me} {N n:Nat} {lo:List Ty} (hs:lo.length=N) : ∀ {l:List Hd} {A B:An},InvA x N A→qbK L x n lo l A = .ok B→InvA x N B∧(B=A∨qqa L B A)
 | [],A,B,h,hf=>by cases hf;exact⟨h,.inl rfl⟩
 | d :: l,A,B,h,hf=>by
  rw[qbK]at hf
  split at hf
  ·exact qgV F hs h hf
  ·split at hf
   ·cases hf
   ·cases h1:qbh L A d.g.toNat ⟨lo,[kT 1]⟩ with
    | none=>rw[h1]at hf;cases hf
    | some C =>
     rw[h1]at hf;obtain⟨i1,l1⟩:=qjC F h (s:=⟨lo,[kT 1]⟩) hs h1;obtain⟨i2,l2⟩:=qgV F hs i1 hf;refine⟨i2,?_⟩;rcases l1 with rfl|l1
     ·exact l2
     ·rcases l2 with rfl|l2
      ·exact .inr l1
      ·exact .inr (l2.trans l1)
theorem qru {L:List Pk} {x:Me} {s t:St} {i:In} (h:qak L x s i = .ok t):t.lo.length=s.lo.length :=
 (qgA (m:=max x.stack s.sk.length) (T:=fun _=>True) (by omega) ⟨rfl,by omega,fun _ _=>trivial,fun _ _=>trivial⟩ ⟨fun _=>trivial,trivial,trivial,trivial,trivial,fun _ _=>trivial⟩ t h).len
theorem qi4 {L:List Pk} (F:Fits L) {x:Me} {N n:Nat} {A B:An} {s:St} {i:In} (h:InvA x N A) (hs:A.K[n]? = some (some s)) (hp:A.P[n]? = some true) (hr:qd5 L x A n s i = .ok B):InvA x N B∧(qqa L B A∨(nn B=nn A∧rkA L B=rkA L A∧np B<np A)):=by
 unfold qd5 at hr;cases ht:qak L x s i with
 | error e=>rw[ht]at hr;cases hr
 | ok t =>
  rw[ht]at hr;simp only at hr;have h0:InvA x N ⟨A.K,A.P.set n false⟩:=⟨h.lk,by simp[h.lp],h.lo,fun k hk=>by
   simp only[List.getElem?_set]at hk
   split at hk
   ·split at hk <;> cases hk
   ·exact h.pd k hk⟩
  have hnp:np ⟨A.K,A.P.set n false⟩<np A:=by
   have:=qbZ cP false hp;unfold np;simp only[cP]at this ⊢;omega
  have hl:s.lo.length=N:=h.lo n s hs;cases hw:qa6 L t (qbe i n) ⟨A.K,A.P.set n false⟩ with
  | none=>rw[hw]at hr;cases hr
  | some C =>
   rw[hw]at hr;obtain⟨i1,l1⟩:=qhu F ((qru ht).trans hl) h0 hw;obtain⟨i2,l2⟩:=qgV F hl i1 hr;refine⟨i2,?_⟩;rcases l1 with rfl|l1
   ·rcases l2 with rfl|l2
    ·exact .inr ⟨rfl,rfl,hnp⟩
    ·exact .inl l2
   ·rcases l2 with rfl|l2
    ·exact .inl l1
    ·exact .inl (l2.trans l1)
theorem qr2 {L:List Pk} (F:Fits L) {x:Me} {N:Nat} (a b c:Nat) : ∀ A:An,nn A=a→rkA L A=b→np A=c→InvA x N A→∃ f r,goE L x f A=some r:=by
 induction a using Nat.strongRecOn generalizing b c with
 | _ a iha =>
 induction b using Nat.strongRecOn generalizing c with
 | _ b ihb =>
 induction c using Nat.strongRecOn with
 | _ c ihc =>
 intro A ha hb hc h;cases hp:A.P.findIdx? id with
 | none=>exact⟨1,.ok A,by rw[goE,hp]⟩
 | some n =>
  have hn:A.P[n]? = some true:=by
   obtain⟨h1,h2,_⟩:=List.findIdx?_eq_some_iff_getElem.1 hp;rw[List.getElem?_eq_getElem h1]
   simpa using h2
  obtain⟨s,hs⟩:=h.pd n hn;have hl:n<x.code.xs.length:=by rw[← h.lk];exact(List.getElem?_eq_some_iff.1 hs).1
  obtain⟨i,hi⟩:=getElem?_of_lt hl;cases hr:qd5 L x A n s i with
  | error e=>exact⟨1,.error (e,n),by rw[goE,hp];simp only;rw[qbW.2 hs,hi];simp only;rw[hr]⟩
  | ok B =>
   obtain⟨i2,l2⟩:=qi4 F h hs hn hr;have : ∃ f r,goE L x f B=some r:=by
    rcases l2 with(l2|⟨e,l2⟩)|⟨e,e2,l2⟩
    ·exact iha (nn B) (by omega) _ _ B rfl rfl rfl i2
    ·exact ihb (rkA L B) (by omega) _ B (by omega) rfl rfl i2
    ·exact ihc (np B) (by omega) B (by omega) (by omega) rfl i2
   obtain⟨f,r,hf⟩:=this;exact⟨f+1,r,by rw[goE,hp];simp only;rw[qbW.2 hs,hi];simp only;rw[hr];exact hf⟩
theorem quO (x:Me):InvA x (qbn x).lo.length (An0 x):=⟨by simp[An0],by simp[An0],fun k s hs=>by
 simp only[An0,List.getElem?_set,List.getElem?_replicate]at hs
 split at hs
 ·split at hs
  ·cases hs;rfl
  ·cases hs
 ·split at hs <;> simp at hs,fun k hk=>by
 simp only[An0,List.getElem?_set,List.getElem?_replicate,List.length_replicate]at hk ⊢
 split at hk
 ·rename_i e
  split at hk
  ·rename_i e2;rw[if_pos e,if_pos e2];exact⟨_,rfl⟩
  ·cases hk
 ·split at hk <;> simp at hk⟩
theorem qtr {L:List Pk} (F:Fits L) (x:Me) : ∃ f r,goE L x f (An0 x)=some r:=qr2 F _ _ _ (An0 x) rfl rfl rfl (quO x)
end Go.Proofs.YtkkddfebhbcdjaaGreatDoor
end
section
namespace Go.Proofs.YtkkddfebhbcdjaaGreatDoor
open Go.ChangeShapes Go.WideShapes Go.ChangeAt Go.RowKit Go.Sc
theorem qaL {α:Type} {P:α→Prop} {xs:List α} {k:Nat} {y:α} (h : ∀(j:Nat) (u:α),j<k→xs[j]? = some u→P u) (hy:xs[k]? = some y) (hP:P y) : ∀(j:Nat) (u:α),j<k+1→xs[j]? = some u→P u:=fun j u hj hu=>by
 rcases Nat.lt_succ_iff_lt_or_eq.1 hj with h'|rfl
 ·exact h j u h' hu
 ·have h1:=hy.symm.trans hu;cases h1;exact hP
structure Glob (w:World):Prop where
 lt:7<w.heap.size
 o0:w.cell? ⟨2,0,none⟩=some (Z 255)
 o1:w.cell? ⟨2,1,none⟩=some (Z 0)
 s0:w.cell? ⟨3,0,none⟩=some (Z 255)
 s1:w.cell? ⟨3,1,none⟩=some (Z 1)
 w0:w.cell? ⟨4,0,none⟩=some (Z 5)
 w1:w.cell? ⟨4,1,none⟩=some (Z 255)
 w2:w.cell? ⟨4,2,none⟩=some (Z 0)
 lo:ObjAt w 7
theorem Glob.mono {w w':World} (h:Glob w) (hb:Below w.heap.size w w'):Glob w' :=
 have c : ∀ {b o:Nat} {v:Value},b<8→w.cell? ⟨b,o,none⟩=some v→w'.cell? ⟨b,o,none⟩=some v:=fun {b o v} hl hc=>(hb.cell (p:=⟨b,o,none⟩) (by have:=h.lt;simp only;omega)).trans hc
 ⟨by have:=h.lt;have:=hb.size;omega,c (by decide) h.o0,c (by decide) h.o1,c (by decide) h.s0,c (by decide) h.s1,c (by decide) h.w0,c (by decide) h.w1,c (by decide) h.w2,h.lo.mono hb⟩
abbrev wv (s:Sl Pk):Value:=.agg #[.slice s.a s.xs.length s.c]
def qnl (n:Int):Value:=if 0≤n then .tuple #[Z n,.bool true] else .tuple #[Z 0,.bool false]
theorem qgL {n:Int} (h:n<0):qnl n = .tuple #[Z 0,.bool false]:=by unfold qnl;rw[if_neg (by omega)]
theorem qdg {n:Int} (h:0≤n):qnl n = .tuple #[Z n,.bool true]:=by unfold qnl;rw[if_pos h]
theorem qcF (s:Sl Pk) (d:Sl Int) (w:World) (hs:Hid (Pks w s)) (hd:Hid (qaX w d)) (hF:Few s.xs):qaa Tryz.prog 128 #[wv s,d.v] w (qnl (qa4 s.xs d.xs)):=by
 obtain⟨a,c,xs⟩:=s;obtain⟨da,dc,ds⟩:=d;have hle:=hs.out.le;have hmx:=hs.out.max;have hlen:=hF.len;have HF:=hid hF;simp only at hle hmx hlen;show qaa _ _ #[.agg #[.slice a xs.length c],.slice da ds.length dc] _ (qnl (qa4 xs ds));obtain⟨N,hN⟩ : ∃ N,N=qa4 xs ds:=⟨_,rfl⟩;rw[← hN];have HN:=hid hN;have hB:Hid (∀(u:Sl Int) (W:World),qaX w u→Below w.heap.size w W→qaa Tryz.prog 127 #[.slice u.a u.xs.length u.c,.slice da ds.length dc] W (.bool (bEq u.xs ds))):=hid fun u W hu h=>qa8 u ⟨da,dc,ds⟩ W (hid (hu.mono h)) (hid (hd.out.mono h))
 unfold qaa;clear hF hN hd;go_enter Tryz.func128,Tryz.ntmps128;go_wp2_with fail;go_loopw [15] (fun i wr=>∃(k:Nat) (x:Ext (w.alloc (.cells #[.slice a xs.length c] 148))),k≤xs.length∧i = Z k∧Hid (∀(j:Nat) (u:Pk),j<k→xs[j]? = some u→bEq u.aid.xs ds=false)∧wr=x.val) (fun i _=>xs.length - (intOf i).toNat)
 case atStart=>exact⟨0,⟨_,Below.refl _ _⟩,Nat.zero_le _,rfl,hid (fun _ _ h=>absurd h (by omega)),rfl⟩
 case round =>
  obtain⟨k,x,hk,rfl,HZ,rfl⟩:=hrel;by_cases hlt:k<xs.length
  ·obtain⟨y,hy⟩:=getElem?_of_lt hlt;obtain⟨hok,b,off,hba,hbl,hc⟩:=hs.out.at_ k y hy;simp only at hba;subst hba;have h0:=hc 0 _ rfl;have h1:=hc 1 _ rfl;have h2:=hc 2 _ rfl;have h3:=hc 3 _ rfl;have h4:=hc 4 _ rfl;have h5:=hc 5 _ rfl;have h6:=hc 6 _ rfl;have h7:=hc 7 _ rfl;simp only[Nat.add_zero]at h0;haveI:InW b w:=⟨hbl⟩;have HY:=hid hy;have hBy:=hid fun W h=>hB.out y.aid W hok.aid h
   obtain⟨bM,ebM⟩ : ∃ bM,bM=bEq y.aid.xs ds:=⟨_,rfl⟩;rw[← ebM]at hBy;have EM:=hid ebM.symm;have hk1:(0:Int)≤(k:Int):=by omega
   have hk2:(k:Int)<(xs.length:Int):=by omega
   clear ebM hc hok hy hbl;cases bM with
   | true =>
    have HB:Hid (N=k):=hid (HN.out.trans (qph HZ.out HY.out EM.out));go_wp2_with (first|(go_at_call 127;refine(hBy.out _ qap).cl fun xw=>?_)|fail)
    go_returns
    exact⟨by rw[HB.out,qdg (by omega)];rfl,qap⟩
   | false =>
    go_wp2_with (first|(go_at_call 127;refine(hBy.out _ qap).cl fun xw=>?_)|fail);go_roundw
    case rel=>exact⟨k+1,⟨_,qap⟩,by omega,by go_num,hid (qaL HZ.out HY.out EM.out),rfl⟩
    case measure=>simp[intOf];omega
  ·have hNm:=hid (qnZ (L:=xs) (aid:=ds) fun j u hu=>HZ.out j u (by have:=(List.getElem?_eq_some_iff.1 hu).1;omega) hu);clear HZ;go_wp2_with fail;go_loopw [29] (fun i wr=>∃(k:Nat) (x:Ext (w.alloc (.cells #[.slice a xs.length c] 148))),k≤xs.length∧i = Z k∧Hid (∀(j:Nat) (u:Pk),j<k→xs[j]? = some u→ql7 ds u<0)∧wr=x.val) (fun i _=>xs.length - (intOf i).toNat)
   case atStart=>exact⟨0,x,Nat.zero_le _,rfl,hid (fun _ _ h=>absurd h (by omega)),rfl⟩
   case round =>
    obtain⟨k,x,hk,rfl,HZ,rfl⟩:=hrel;by_cases hlt:k<xs.length
    ·obtain⟨y,hy⟩:=getElem?_of_lt hlt;obtain⟨hok,b,off,hba,hbl,hc⟩:=hs.out.at_ k y hy;simp only at hba;subst hba;have h0:=hc 0 _ rfl;have h1:=hc 1 _ rfl;have h2:=hc 2 _ rfl;have h3:=hc 3 _ rfl;have h4:=hc 4 _ rfl;have h5:=hc 5 _ rfl;have h6:=hc 6 _ rfl;have h7:=hc 7 _ rfl;simp only[Nat.add_zero]at h0;haveI:InW b w:=⟨hbl⟩;have HI:=hid hok.imports;have hfy:=(HF.out.all y (List.mem_of_getElem? hy)).imports;have HY:=hid hy;have hk1:(0:Int)≤(k:Int):=by omega
     have hk2:(k:Int)<(xs.length:Int):=by omega
     clear hc hok hy hbl;obtain⟨ya,y1,y2,⟨ia,ic,is⟩,y4,y5,y6,y7⟩:=y;simp only at h0 h1 h2 h3 h4 h5 h6 h7 hfy HI;have hil:=HI.out.le;have him:=HI.out.max;simp only at hil him;go_wp2_with fail;go_loopw [37] (fun i wr=>∃(n:Nat) (z:Ext (x.val.alloc (.cells #[.slice ya.a ya.xs.length ya.c,Z y1,Z y2,.slice ia is.length ic,.slice y4.a y4.xs.length y4.c,.slice y5.a y5.xs.length y5.c,.slice y6.a y6.xs.length y6.c,.slice y7.a y7.xs.length y7.c] 41))),n≤is.length∧i = Z n∧Hid (∀(j:Nat) (u:Ip),j<n→is[j]? = some u→bEq u.aid.xs ds=false)∧wr=z.val) (fun i _=>is.length - (intOf i).toNat)
     case atStart=>exact⟨0,⟨_,Below.refl _ _⟩,Nat.zero_le _,rfl,hid (fun _ _ h=>absurd h (by omega)),rfl⟩
     case round =>
      obtain⟨n,z,hn,rfl,HZ2,rfl⟩:=hrel;by_cases hnt:n<is.length
      ·obtain⟨u,hu⟩:=getElem?_of_lt hnt;obtain⟨huk,b',off',hba',hbl',hcu⟩:=HI.out.at_ n u hu;simp only at hba';subst hba';have g0:=hcu 0 _ rfl;have g1:=hcu 1 _ rfl;have g2:=hcu 2 _ rfl;simp only[Nat.add_zero]at g0;have HU:=hid hu;haveI:InW b' w:=⟨hbl'⟩;have hBy:=hid fun W h=>hB.out u.aid W huk.1 h
       obtain⟨bM,ebM⟩ : ∃ bM,bM=bEq u.aid.xs ds:=⟨_,rfl⟩;rw[← ebM]at hBy;have EM:=hid ebM.symm;have hn1:(0:Int)≤(n:Int):=by omega
       have hn2:(n:Int)<(is.length:Int):=by omega
       clear ebM hcu huk hu hbl';cases bM with
       | true =>
        have HB:Hid (N=16 * k+n+1):=hid (by rw[HN.out,hNm.out,qmY HZ.out HY.out (qqm HZ2.out HU.out EM.out)];omega);go_wp2_with (first|(go_at_call 127;refine(hBy.out _ qap).cl fun xw=>?_)|fail)
        go_returns
        exact⟨by rw[HB.out,qdg (by omega)];rfl,qap⟩
       | false =>
        go_wp2_with (first|(go_at_call 127;refine(hBy.out _ qap).cl fun xw=>?_)|fail);go_roundw
        case rel=>exact⟨n+1,⟨_,qap⟩,by omega,by go_num,hid (qaL HZ2.out HU.out EM.out),rfl⟩
        case measure=>simp[intOf];omega
      ·go_wp2_with fail;go_roundw
       case rel=>exact⟨k+1,⟨_,qap⟩,by omega,by go_num,hid (qaL HZ.out HY.out (qoz fun i u hu=>HZ2.out i u (by have:=(List.getElem?_eq_some_iff.1 hu).1;simp only at this;omega) hu)),rfl⟩
       case measure=>simp[intOf];omega
    ·have HB:Hid (N = -1):=hid (by rw[HN.out,hNm.out,qkN fun j u hu=>HZ.out j u (by have:=(List.getElem?_eq_some_iff.1 hu).1;omega) hu]);go_wp2_with fail
     go_returns
     exact⟨by rw[HB.out,qgL (by omega)];rfl,qap⟩
def qb4 (V:Option Sg) (w:World) (e:Ending) (w':World):Prop :=
 ∃(v:Value) (ps:List Ty) (res:Ty) (b:Bool),e = .returned (.tuple #[v,.agg #[Z res.k,Z res.c.p,Z res.c.c],.bool b])∧qcK w' w.heap.size v ps∧Below w.heap.size w w'∧V=(if b=true then some ⟨ps,res⟩ else none)∧(b=false→v = .slice none 0 0∧ps=[]∧res=⟨0,⟨0,0⟩⟩)
theorem qb4.no {w w':World} (h:Below w.heap.size w w'):qb4 none w (.returned (.tuple #[.slice none 0 0,.agg #[Z 0,Z 0,Z 0],.bool false])) w' :=
 ⟨_,[],⟨0,⟨0,0⟩⟩,false,rfl,Own.nil _ _ _ _ _,h,rfl,fun _=>⟨rfl,rfl,rfl⟩⟩
theorem qkj {W:World} {b:Nat} {u0 u1 u2:Value} (v0 v1 v2:Value) (h0:W.cell? ⟨b,0,none⟩=some u0) (h1:W.cell? ⟨b,1,none⟩=some u1) (h2:W.cell? ⟨b,2,none⟩=some u2) :
  (((W.setCell ⟨b,0,none⟩ v0).setCell ⟨b,1,none⟩ v1).setCell ⟨b,2,none⟩ v2).cell? ⟨b,0,none⟩=some v0∧(((W.setCell ⟨b,0,none⟩ v0).setCell ⟨b,1,none⟩ v1).setCell ⟨b,2,none⟩ v2).cell? ⟨b,1,none⟩=some v1∧(((W.setCell ⟨b,0,none⟩ v0).setCell ⟨b,1,none⟩ v1).setCell ⟨b,2,none⟩ v2).cell? ⟨b,2,none⟩=some v2:=by
 have a1:(W.setCell ⟨b,0,none⟩ v0).cell? ⟨b,1,none⟩=some u1:=by
  rw[World.cell?_setCell_other]
  ·exact h1
  ·simp
 have a2:((W.setCell ⟨b,0,none⟩ v0).setCell ⟨b,1,none⟩ v1).cell? ⟨b,2,none⟩=some u2:=by
  rw[World.cell?_setCell_other,World.cell?_setCell_other]
  ·exact h2
  ·simp
  ·simp
 refine⟨?_,?_,World.cell?_setCell_same' _ _ _ (by rw[a2];rfl)⟩
 ·rw[World.cell?_setCell_other,World.cell?_setCell_other]
  ·exact World.cell?_setCell_same' _ _ _ (by rw[h0];rfl)
  ·simp
  ·simp
 ·rw[World.cell?_setCell_other]
  ·exact World.cell?_setCell_same' _ _ _ (by rw[a1];rfl)
  ·simp
theorem qb4.go {V:Option Sg} {w:World} {e:Ending} {w':World} (h:qb4 V w e w') : ∃(a:Option Addr) (c:Nat) (ps:List Ty) (res:Ty) (b:Bool) (x:Ext w),e = .returned (.tuple #[.slice a ps.length c,.agg #[Z res.k,Z res.c.p,Z res.c.c],.bool b])∧w'=x.val∧Hid ((⟨a,c,ps⟩:Sl Ty).Ok eT 3 x.val)∧Hid (V=(if b=true then some ⟨ps,res⟩ else none)):=by
 obtain⟨v,ps,res,b,rfl,ho,hb,hV,_⟩:=h;obtain⟨a,c,rfl,hok⟩:=ho.slT;exact⟨a,c,ps,res,b,⟨w',hb⟩,rfl,rfl,hok,hV⟩

end Go.Proofs.YtkkddfebhbcdjaaGreatDoor
end
section
namespace Go.Proofs.YtkkddfebhbcdjaaGreatDoor
open Go.Sc
theorem qka {L:List Pk} {U:List Rf} (hU : ∀ a,∀ x∈qc8 L a,x∈U) : ∀(n:Nat) (r:Rf) (out:List Rf),out.Nodup→(∀ x∈out,x∈U)→r∈U→(qaD L n r out).Nodup∧∀ x∈qaD L n r out,x∈U
 | 0,_,_,h1,h2,_=>⟨h1,h2⟩
 | n+1,r,out,h1,h2,hr=>by
  rw[qaD];by_cases hc:out.contains r || !qaz L r
  ·rw[if_pos hc];exact⟨h1,h2⟩
  ·rw[if_neg hc];have hn:r ∉ out:=by
    intro h;exact hc (by simp[h])
   have key : ∀(es o:List Rf),(∀ e∈es,e∈U)→o.Nodup→(∀ x∈o,x∈U)→(es.foldl (fun o e=>qaD L n e o) o).Nodup∧∀ x∈es.foldl (fun o e=>qaD L n e o) o,x∈U:=by
    intro es
    induction es with
    | nil=>intro o _ g1 g2;exact⟨g1,g2⟩
    | cons e es ih =>
     intro o ge g1 g2;obtain⟨k1,k2⟩:=qka hU n e o g1 g2 (ge e (by simp));exact ih _ (fun x hx=>ge x (by simp[hx])) k1 k2
   refine key (qc8 L r) (out ++ [r]) (fun e he=>hU r e he) ?_ ?_
   ·rw[List.nodup_append];refine⟨h1,by simp,fun a ha b hb=>?_⟩;simp at hb;subst hb;rintro rfl;exact hn ha
   ·intro x hx;rcases List.mem_append.1 hx with h|h
    ·exact h2 x h
    ·simp at h;subst h;exact hr
def qip (L:List Pk):List Rf:=(qnu L).flatMap fun a=>qc8 L a ++ qbg L a
theorem qha {L:List Pk} {a x:Rf} (h:x∈qc8 L a):x∈qip L:=by
 unfold qip;rw[List.mem_flatMap];have ha : ∃ c,clE L a=some c:=by
  unfold qc8 at h;cases hc:clE L a with
  | none=>rw[hc]at h;simp at h
  | some c=>exact⟨c,rfl⟩
 obtain⟨c,hc⟩:=ha;exact⟨a,qgE hc,List.mem_append.2 (.inl h)⟩
theorem qiV : ∀ M:List Pk,(∀ p∈M,FewP p)→(M.map fun p:Pk=>p.classes.xs.length).sum≤40 * M.length
 | [],_=>by simp
 | p :: M,hM=>by
  have:=qiV M fun q hq=>hM q (by simp[hq])
  have h3:=(hM p (by simp)).classes;simp only[List.map_cons,List.sum_cons,List.length_cons];omega
theorem qj2 {L:List Pk} (h:Few L):(qip L).length≤25600:=by
 have h1:(qnu L).length≤320:=by
  rw[qkp];have:=qiV L h.all;have:=h.len;omega
 have h2 : ∀ a,(qc8 L a ++ qbg L a).length≤80:=fun a=>by
  rw[List.length_append];unfold qc8 qbg;cases hc:clE L a with
  | none=>simp
  | some c =>
   obtain⟨p,_,_,h3,_,_,h6⟩:=qaY hc;have hf:=(h.all p (List.mem_of_getElem? h3)).cls c (List.mem_of_getElem? h6);have:=hf.ext;have:=hf.impls;simp only[List.length_map];omega
 have h3 : ∀ l:List Rf,(l.flatMap fun a=>qc8 L a ++ qbg L a).length≤80 * l.length:=by
  intro l
  induction l with
  | nil=>simp
  | cons a l ih =>
   have:=h2 a;rw[List.flatMap_cons,List.length_append,List.length_cons,Nat.mul_succ];omega
 have:=h3 (qnu L);unfold qip;omega
theorem qpr {L:List Pk} (h:Few L) {f:Rf} {l:List Rf} (h1:l.Nodup) (h2 : ∀ x∈l,x∈f :: qip L):l.length≤25601:=by
 have:=qpC l (f :: qip L) h1 h2;have:=qj2 h;simp only[List.length_cons]at *;omega
end Go.Proofs.YtkkddfebhbcdjaaGreatDoor
end
section
namespace Go.Proofs.YtkkddfebhbcdjaaGreatDoor
open Go.ChangeShapes Go.WideShapes Go.ChangeAt Go.RowKit Go.Sc

end Go.Proofs.YtkkddfebhbcdjaaGreatDoor
end
section
namespace Go.Proofs.YtkkddfebhbcdjaaGreatDoor
open Go.Sc

end Go.Proofs.YtkkddfebhbcdjaaGreatDoor
end
section
namespace Go.Proofs.YtkkddfebhbcdjaaGreatDoor
open Go.ChangeShapes Go.WideShapes Go.ChangeAt Go.RowKit Go.Sc

end Go.Proofs.YtkkddfebhbcdjaaGreatDoor
end
