/- Part of a proof. -/
import Derived.Test.YtkkddfebhbcdjaaGreatDoorSC00
import Derived.WalkKit
import Derived.ProofKit
import Derived.OpenShut
import Derived.ChangeOld
import Derived.Carry
import Derived.BigQuiet
import Derived.Handy
import Derived.Laws.EntriesVeiled
import Derived.WalkLawsBesides
import Derived.Laws.BytesArg
set_option maxRecDepth 100000
set_option maxHeartbeats 8000000
section
namespace Go.Sc
abbrev Z (k:Int):Value:=.int .i64 k
open Go.ChangeShapes Go.WideShapes Go.ChangeAt Go.RowKit
structure Ext (W:World) where
 val:World
 below:Below W.heap.size W val
instance {W:World}:Nonempty (Ext W):=⟨⟨W,Below.refl _ _⟩⟩
theorem Ext.size {W:World} (x:Ext W):W.heap.size≤x.val.heap.size:=x.below.size
class InW (b:Nat) (W:World):Prop where
 lt:b<W.heap.size
instance InW.ext {b:Nat} {W:World} [h:InW b W] (x:Ext W):InW b x.val:=⟨Nat.lt_of_lt_of_le h.lt x.size⟩
instance InW.alloc {b:Nat} {W:World} [h:InW b W] (o:Obj):InW b (W.alloc o):=⟨by have:=h.lt;simp;omega⟩
instance InW.new0 {W:World} (o:Obj):InW W.heap.size (W.alloc o):=⟨by simp⟩
instance InW.new1 {W:World} (o o1:Obj):InW (W.heap.size+1) ((W.alloc o).alloc o1):=⟨by simp⟩
instance InW.new2 {W:World} (o o1 o2:Obj):InW (W.heap.size+2) (((W.alloc o).alloc o1).alloc o2):=⟨by simp⟩
instance InW.new3 {W:World} (o o1 o2 o3:Obj):InW (W.heap.size+3) ((((W.alloc o).alloc o1).alloc o2).alloc o3):=⟨by simp⟩
instance InW.new4 {W:World} (o o1 o2 o3 o4:Obj):InW (W.heap.size+4) (((((W.alloc o).alloc o1).alloc o2).alloc o3).alloc o4):=⟨by simp⟩
instance InW.drew {b:Nat} {W:World} [h:InW b W]:InW b W.drew:=⟨h.lt⟩
instance InW.setCell {b:Nat} {W:World} [h:InW b W] (a:Addr) (v:Value):InW b (W.setCell a v):=⟨by have:=h.lt;simpa [World.setCell] using this⟩
@[go_sem] theorem Ext.cell {W:World} (x:Ext W) (b o:Nat) [h:InW b W]:x.val.cell? ⟨b,o,none⟩=W.cell? ⟨b,o,none⟩:=x.below.cell (p:=⟨b,o,none⟩) h.lt
@[go_sem] theorem Ext.frozen {W:World} (x:Ext W) (b o:Nat) [h:InW b W]:x.val.frozen? ⟨b,o,none⟩=W.frozen? ⟨b,o,none⟩:=x.below.frozen (p:=⟨b,o,none⟩) h.lt
@[go_sem] theorem alloc_cell_in {W:World} (ob:Obj) (b o:Nat) [h:InW b W]:(W.alloc ob).cell? ⟨b,o,none⟩=W.cell? ⟨b,o,none⟩:=World.cell?_alloc_lt W ob ⟨b,o,none⟩ h.lt
@[go_sem] theorem alloc_frozen_in {W:World} (ob:Obj) (b o:Nat) [h:InW b W]:(W.alloc ob).frozen? ⟨b,o,none⟩=W.frozen? ⟨b,o,none⟩:=World.frozen?_alloc_old W ob ⟨b,o,none⟩ (by have:=h.lt;simp;omega)
theorem Ext.le_size {W:World} (x:Ext W) {b:Nat} (h:b≤W.heap.size):b≤x.val.heap.size:=Nat.le_trans h x.size
theorem qgO {W:World} {o:Obj} {b:Nat} (h:b≤W.heap.size):b≤(W.alloc o).heap.size:=by simp;omega
theorem qne {W:World} {b:Nat} (h:b≤W.heap.size):b≤W.drew.heap.size:=h
theorem qez {W:World} {a:Addr} {v:Value} {b:Nat} (h:b≤W.heap.size):b≤(W.setCell a v).heap.size:=by simpa [World.setCell] using h
theorem qe8 {B:Nat} {a W:World} (x:Ext W) (hB:B≤W.heap.size) (h:Below B a W):Below B a x.val:=h.trans (x.below.mono hB)
theorem qgP {P:Program} {id:Nat} {Q:Exit→Act→World→Prop} {a:Act} {w:World} {l:List Oper} (hm:P.follows .mixedOrders=true) (hB:Region.lexB .any l.toArray=true)
  (h:wpQuiet P l.toArray (fun w'=>∃ x:Ext w,w'=x.val) (fun a'=>∀ x:Ext w,Q .normal a' x.val) l a):(Code.region id l.toArray true).wp P Q a w:=by
 refine wp_region_quiet (C:=fun w'=>∃ x:Ext w,w'=x.val) hm hB ⟨⟨w.drew,(Below.refl _ _).drew⟩,rfl⟩ ?_;have e:(fun a'=>∀ w',(∃ x:Ext w,w'=x.val)→Q .normal a' w')=(fun a'=>∀ x:Ext w,Q .normal a' x.val):=by
  funext a';apply propext;constructor
  ·intro h x;exact h _ ⟨x,rfl⟩
  ·rintro h w' ⟨x,rfl⟩;exact h x
 rw[e];simpa using h
theorem qbj{P:Program}{id:Nat}{Q:Exit→Act→World→Prop}{a:Act}{w:World}{l:List Oper}(h:wpQuiet P l.toArray (fun w'=>∃ x:Ext w,w'=x.val) (fun a'=>∀ x:Ext w,Q .normal a' x.val) l a)(hm:P.follows .mixedOrders=true:=by kernel_rfl)(hB:Region.lexB .any l.toArray=true:=by kernel_rfl):(Code.region id l.toArray true).wp P Q a w:=qgP hm hB h
def qaa (P:Program) (f:FuncId) (args:Array Value) (w:World) (v:Value):Prop :=
 Calls P f args w fun e w'=>e = .returned v∧Below w.heap.size w w'
theorem qaa.go {P:Program} {f:FuncId} {args:Array Value} {w:World} {v:Value} (h:qaa P f args w v):Calls P f args w fun e w'=>e = .returned v∧∃ x:Ext w,w'=x.val :=
 h.mono fun _ w' ⟨he,hb⟩=>⟨he,⟨w',hb⟩,rfl⟩
theorem qaa.cl{P:Program}{f:FuncId}{args:Array Value}{w:World}{v:Value}{Q:Ending→World→Prop}(h:qaa P f args w v)(k:∀ x:Ext w,Q (.returned v) x.val):Calls P f args w Q:=h.mono fun _ w' ⟨he,hb⟩=>by subst he;exact k ⟨w',hb⟩
theorem qaa.at {P:Program} {f:FuncId} {args:Array Value} {W:World} {x:Ext W} {v:Value} (h:qaa P f args x.val v):Calls P f args x.val fun e w'=>e = .returned v∧∃ y:Ext W,w'=y.val :=
 h.mono fun _ _ ⟨he,hb⟩=>⟨he,⟨_,x.below.trans (hb.mono x.size)⟩,rfl⟩
theorem qpF {P:Program} {f:FuncId} {args:Array Value} {w:World} {v u:Value} (h:qaa P f args w v) (e:v=u):qaa P f args w u:=e ▸ h
theorem hid {p:Prop} (h:p):Hid p:=h
theorem qan {a b:Bool} (h:a=b):Ending.returned (.bool a) = .returned (.bool b):=by rw[h]
theorem qad {k:IntKind} {a b:Int} (h:a=b):Ending.returned (.int k a) = .returned (.int k b):=by rw[h]
theorem qrj {a b:Value} (h:a=b):Ending.returned a = .returned b:=by rw[h]
theorem END {p:Prop} (h:p:=by with_reducible repeat' (first|exact Below.refl _ _|exact Nat.le_refl _|refine Below.alloc ?_ ?_ _|refine qe8 _ ?_ ?_|refine Below.drew ?_|refine Below.setCell ?_ ?_ _|refine qgO ?_|refine Ext.le_size _ ?_|refine qne ?_|refine qez ?_)):p:=h
theorem qap {p:Prop} (h:p:=by(with_reducible repeat' (first|exact Hid.out (by assumption)|exact Below.refl _ _|exact Nat.le_refl _|refine Below.alloc ?_ ?_ _|refine qe8 _ ?_ ?_|refine Below.drew ?_|refine Below.setCell ?_ ?_ _|refine qgO ?_|refine Ext.le_size _ ?_|refine qne ?_|refine qez ?_));(all_goals (first|omega|(simp;done)|(simp;omega)))):p:=h
theorem OM {p:Prop} (h:p:=by first|omega|(simp;done)|(simp;omega)):p:=h
section
variable {H:Type} {enc:TypeId × Value→H} {P:Program}
theorem qcA {W W':World} (hl:laidOutB P=true) (hb:Below W.heap.size W W') : ∀ {ts:List TypeId} {vs:List Value} {ds:List (DataW H)} {ps:List MemPlace},
  (ts.all fun t=>P.readableRec t && decide (t<P.types.size))=true→DataW.TrodAll enc P W 0 (fun _=>true) true ts vs ds ps →
  DataW.TrodAll enc P W' 0 (fun b=>decide (b<W.heap.size)) true ts vs ds ps
 | [],[],[],ps,_,h=>h
 | t :: ts,v :: vs,d :: ds,ps,hr,h=>by
  obtain⟨p,q,h1,h2,rfl⟩:=h;simp only[List.all_cons,Bool.and_eq_true,decide_eq_true_eq]at hr;obtain⟨m,hm⟩:=h1;exact⟨p,q,Below.trod hl hr.1.1 hr.1.2 ⟨m,hm⟩ hb (fun x hx=>DataW.trod_lt m _ _ _ hm x hx),qcA hl hb hr.2 h2,rfl⟩
theorem qdB {W:World} {base:Nat} {sp:Nat→Bool} {held:Bool} : ∀ {ts:List TypeId} {vs:List Value} {ds:List (DataW H)} {ps:List MemPlace},DataW.TrodAll enc P W base sp held ts vs ds ps→ds.length=ts.length
 | [],[],[],_,_=>rfl
 | t :: ts,v :: vs,d :: ds,ps,h=>by obtain⟨p,q,_,h2,_⟩:=h;simp[qdB h2]
theorem qjm {C:Checked} {os:Os} {f:FuncId} {fn:Func} {s:ChangeSpec} {tb:TypeId}
  (own:ownKnob C.prog.godebug=none) (started:os.Started) (noInit:C.prog.inits.idxOf? f=none) (hfn:C.prog.funcs[f]? = some fn)
  (witness : ∃(w:World) (tape:Tape) (i:Input),w.os=os∧(w.forCall tape i).Shaped C.prog∧i.vars=[]∧Input.okWide C.prog (w.forCall tape i) .any w.heap.size f i ∧
   s.pre6 enc C.prog fn [] false (w.forCall tape i).memory i.args∧Assume.holds {} C.prog (lone (Frame.enter C.prog f i.args .normal) [] (w.forCall tape i)))
  (hres:fn.resultTypes = #[tb]) (htb:C.prog.underlying tb=some .bool) (hvars:s.vars=[]) (laid:laidOutB C.prog=true)
  (readable:(fn.params.toList.all fun t=>C.prog.readableRec t && decide (t<C.prog.types.size))=true)
  (hspec : ∀ ds:List (DataW H),ds.length=fn.params.toList.length→s.fn H ds={ results:=[.lit (.bool true)],args:=ds })
  (walk : ∀(W:World) (base:Nat) (args:Array Value) (ds:List (DataW H)) (ps:List MemPlace),
   (∀(j:Nat) t v,fn.params[j]? = some t→args[j]? = some v→Value.okWide C.prog W .any base t v) →
   DataW.TrodAll enc C.prog W 0 (fun _=>true) true fn.params.toList args.toList ds ps→qaa C.prog f args W (.bool true)) :
  ReturnsInHanded {} C os f .any (s.pre6 enc C.prog fn [] false) (s.post enc C.prog fn false true false false):=by
 refine returnsInHanded_of_change own started noInit hfn witness ?_;intro W base args ds gs before hval hW hcnd _;have hW':=hW;obtain⟨p,q,hA,hV,rfl,hfz,hnd⟩:=hW;rw[hvars]at hV;have hgs:gs=[]∧q=[]:=by
  cases gs with
  | nil=>exact⟨rfl,hV⟩
  | cons g gs=>exact hV.elim
 obtain⟨rfl,rfl⟩:=hgs;refine Calls.mono (walk W base args ds p hval hA) fun e W' ⟨he,hb⟩=>?_
 have hs:=hspec (ds ++ []) (by simpa using qdB hA);refine⟨_,he,ds,[],p ++ [],[],p,[],hW',?_,?_,?_,?_,fun h=>by cases h⟩
 ·rw[hs,hres];exact trodAll_mk1 (shut_bool htb _)
 ·rw[hs];simp only[List.append_nil];exact qcA laid hb readable hA
 ·rw[hvars];have:(s.fn H (ds ++ [])).vars=[]:=by rw[hs]
  rw[this];exact rfl
 ·exact hb.frame _
end
#print axioms qjm
end Go.Sc
end
section
namespace Go.Sc
open Go.RowKit
structure Sl (α:Type) where
 a:Option Addr
 c:Nat
 xs:List α
abbrev Sl.v {α:Type} (s:Sl α):Value:=.slice s.a s.xs.length s.c
structure Rf where
 p:Int
 c:Int
deriving DecidableEq
structure Ty where
 k:Int
 c:Rf
deriving DecidableEq
structure In where
 op:Int
 a:Int
 b:Int
 c:Int
deriving DecidableEq
structure Hd where
 f:Int
 t:Int
 g:Int
 w:Int
deriving DecidableEq
structure Im where
 i:Rf
 ms:Sl Int
structure Ip where
 aid:Sl Int
 major:Int
 minor:Int
structure Ap where
 aid:Sl Int
 cls:Int
 inst:Int
structure Cl where
 super:Rf
 isI:Bool
 ext:Sl Rf
 fields:Sl Ty
 virt:Sl Int
 impls:Sl Im
structure Me where
 static:Bool
 abs:Bool
 cls:Int
 params:Sl Ty
 result:Ty
 locals:Int
 stack:Int
 code:Sl In
 hs:Sl Hd
structure Pk where
 aid:Sl Int
 major:Int
 minor:Int
 imports:Sl Ip
 classes:Sl Cl
 methods:Sl Me
 statics:Sl Ty
 applets:Sl Ap
abbrev Rf.v (r:Rf):Value:=.agg #[Z r.p,Z r.c]
abbrev Ty.v (t:Ty):Value:=.agg #[Z t.k,Z t.c.p,Z t.c.c]
abbrev In.v (i:In):Value:=.agg #[Z i.op,Z i.a,Z i.b,Z i.c]
abbrev Hd.v (h:Hd):Value:=.agg #[Z h.f,Z h.t,Z h.g,Z h.w]
abbrev Im.v (x:Im):Value:=.agg #[Z x.i.p,Z x.i.c,.slice x.ms.a x.ms.xs.length x.ms.c]
abbrev Ip.v (x:Ip):Value:=.agg #[.slice x.aid.a x.aid.xs.length x.aid.c,Z x.major,Z x.minor]
abbrev Ap.v (x:Ap):Value:=.agg #[.slice x.aid.a x.aid.xs.length x.aid.c,Z x.cls,Z x.inst]
abbrev Cl.v (x:Cl):Value:=.agg #[Z x.super.p,Z x.super.c,.bool x.isI,.slice x.ext.a x.ext.xs.length x.ext.c,.slice x.fields.a x.fields.xs.length x.fields.c,.slice x.virt.a x.virt.xs.length x.virt.c,.slice x.impls.a x.impls.xs.length x.impls.c]
abbrev Me.v (x:Me):Value:=.agg #[.bool x.static,.bool x.abs,Z x.cls,.slice x.params.a x.params.xs.length x.params.c,Z x.result.k,Z x.result.c.p,Z x.result.c.c,Z x.locals,Z x.stack,.slice x.code.a x.code.xs.length x.code.c,.slice x.hs.a x.hs.xs.length x.hs.c]
abbrev Pk.v (p:Pk):Value:=.agg #[.slice p.aid.a p.aid.xs.length p.aid.c,Z p.major,Z p.minor,.slice p.imports.a p.imports.xs.length p.imports.c,.slice p.classes.a p.classes.xs.length p.classes.c,.slice p.methods.a p.methods.xs.length p.methods.c,.slice p.statics.a p.statics.xs.length p.statics.c,.slice p.applets.a p.applets.xs.length p.applets.c]
structure El (α:Type) where
 cells:α→List Value
 ok:World→α→Prop
 mono : ∀ {w w':World} {x:α},Below w.heap.size w w'→ok w x→ok w' x
structure Sl.Ok {α:Type} (E:El α) (m:Nat) (w:World) (s:Sl α):Prop where
 le:s.xs.length≤s.c
 max:s.c≤9223372036854775807
 nil:s.a=none→s.c=0
 at_ : ∀(k:Nat) (x:α),s.xs[k]? = some x→E.ok w x∧∃ b off,s.a=some ⟨b,off,none⟩∧b<w.heap.size∧∀(j:Nat) (v:Value),(E.cells x)[j]? = some v→w.cell? ⟨b,off+k * m+j,none⟩=some v
theorem Sl.Ok.mono {α:Type} {E:El α} {m:Nat} {w w':World} {s:Sl α} (h:s.Ok E m w) (hb:Below w.heap.size w w'):s.Ok E m w' :=
 ⟨h.le,h.max,h.nil,fun k x hx=>by
  obtain⟨h1,b,off,h2,h3,h4⟩:=h.at_ k x hx;exact⟨E.mono hb h1,b,off,h2,Nat.lt_of_lt_of_le h3 hb.size,fun j v hv=>(hb.cell (p:=⟨b,_,none⟩) h3).trans (h4 j v hv)⟩⟩
def byt (x:Int):Prop:=0≤x∧x≤255
def qf4:El Int:=⟨fun n=>[.int .u8 n],fun _ n=>0≤n∧n≤255,fun _ h=>h⟩
def qer:El Int:=⟨fun n=>[Z n],fun _ n=>-9223372036854775808≤n∧n≤9223372036854775807,fun _ h=>h⟩
def qai (n:Int):Prop:=-9223372036854775808≤n∧n≤9223372036854775807
def eRf:El Rf:=⟨fun r=>[Z r.p,Z r.c],fun _ r=>qai r.p∧qai r.c,fun _ h=>h⟩
def Ty.Ok (t:Ty):Prop:=qai t.k∧qai t.c.p∧qai t.c.c
def eTy:El Ty:=⟨fun t=>[Z t.k,Z t.c.p,Z t.c.c],fun _ t=>t.Ok,fun _ h=>h⟩
def eIn:El In:=⟨fun i=>[Z i.op,Z i.a,Z i.b,Z i.c],fun _ i=>qai i.op∧qai i.a∧qai i.b∧qai i.c,fun _ h=>h⟩
def eHd:El Hd:=⟨fun i=>[Z i.f,Z i.t,Z i.g,Z i.w],fun _ i=>qai i.f∧qai i.t∧qai i.g∧qai i.w,fun _ h=>h⟩
abbrev qaX (w:World) (s:Sl Int):Prop:=s.Ok qf4 1 w
abbrev qqX (w:World) (s:Sl Int):Prop:=s.Ok qer 1 w
def Im.Ok (w:World) (x:Im):Prop:=qai x.i.p∧qai x.i.c∧qqX w x.ms
def eIm:El Im:=⟨fun x=>[Z x.i.p,Z x.i.c,.slice x.ms.a x.ms.xs.length x.ms.c],Im.Ok,fun hb h=>⟨h.1,h.2.1,h.2.2.mono hb⟩⟩
def Ip.Ok (w:World) (x:Ip):Prop:=qaX w x.aid∧qai x.major∧qai x.minor
def eIp:El Ip:=⟨fun x=>[.slice x.aid.a x.aid.xs.length x.aid.c,Z x.major,Z x.minor],Ip.Ok,fun hb h=>⟨h.1.mono hb,h.2⟩⟩
def Ap.Ok (w:World) (x:Ap):Prop:=qaX w x.aid∧qai x.cls∧qai x.inst
def eAp:El Ap:=⟨fun x=>[.slice x.aid.a x.aid.xs.length x.aid.c,Z x.cls,Z x.inst],Ap.Ok,fun hb h=>⟨h.1.mono hb,h.2⟩⟩
structure Cl.Ok (w:World) (x:Cl):Prop where
 sp:qai x.super.p
 sc:qai x.super.c
 ext:x.ext.Ok eRf 2 w
 fields:x.fields.Ok eTy 3 w
 virt:qqX w x.virt
 impls:x.impls.Ok eIm 3 w
def eCl:El Cl:=⟨fun x=>[Z x.super.p,Z x.super.c,.bool x.isI,.slice x.ext.a x.ext.xs.length x.ext.c,.slice x.fields.a x.fields.xs.length x.fields.c,.slice x.virt.a x.virt.xs.length x.virt.c,.slice x.impls.a x.impls.xs.length x.impls.c],
 Cl.Ok,fun hb h=>⟨h.sp,h.sc,h.ext.mono hb,h.fields.mono hb,h.virt.mono hb,h.impls.mono hb⟩⟩
structure Me.Ok (w:World) (x:Me):Prop where
 cls:qai x.cls
 params:x.params.Ok eTy 3 w
 result:x.result.Ok
 locals:qai x.locals
 stack:qai x.stack
 code:x.code.Ok eIn 4 w
 hs:x.hs.Ok eHd 4 w
def eMe:El Me:=⟨fun x=>[.bool x.static,.bool x.abs,Z x.cls,.slice x.params.a x.params.xs.length x.params.c,Z x.result.k,Z x.result.c.p,Z x.result.c.c,Z x.locals,Z x.stack,.slice x.code.a x.code.xs.length x.code.c,.slice x.hs.a x.hs.xs.length x.hs.c],
 Me.Ok,fun hb h=>⟨h.cls,h.params.mono hb,h.result,h.locals,h.stack,h.code.mono hb,h.hs.mono hb⟩⟩
structure Pk.Ok (w:World) (p:Pk):Prop where
 aid:qaX w p.aid
 major:qai p.major
 minor:qai p.minor
 imports:p.imports.Ok eIp 3 w
 classes:p.classes.Ok eCl 7 w
 methods:p.methods.Ok eMe 11 w
 statics:p.statics.Ok eTy 3 w
 applets:p.applets.Ok eAp 3 w
theorem Pk.Ok.mono {w w':World} {p:Pk} (h:p.Ok w) (hb:Below w.heap.size w w'):p.Ok w' :=
 ⟨h.aid.mono hb,h.major,h.minor,h.imports.mono hb,h.classes.mono hb,h.methods.mono hb,h.statics.mono hb,h.applets.mono hb⟩
theorem getElem?_of_lt {α:Type} {xs:List α} {k:Nat} (h:k<xs.length) : ∃ x,xs[k]? = some x:=⟨_,List.getElem?_eq_getElem h⟩
def qac {α:Type} (F:Nat→α→Int):Nat→List α→Int
 | _,[]=>0
 | k,x :: r=>if F k x=0 then qac F (k+1) r else F k x
theorem qbx {α:Type} {F:Nat→α→Int} : ∀ {xs:List α} {n:Nat},(∀ j x,xs[j]? = some x→F (n+j) x=0)→qac F n xs=0
 | [],_,_=>rfl
 | x :: r,n,h=>by
  have h0:=h 0 x rfl;simp only[Nat.add_zero]at h0;rw[qac,if_pos h0];exact qbx fun j y hy=>by have:=h (j+1) y hy;rwa [Nat.add_comm j 1,← Nat.add_assoc]at this
theorem qcB {α:Type} {F:Nat→α→Int} : ∀ {xs:List α} {n k:Nat} {y:α},(∀ j x,j<k→xs[j]? = some x→F (n+j) x=0)→xs[k]? = some y→F (n+k) y≠0→qac F n xs=F (n+k) y
 | x :: r,n,0,y,_,hy,hne=>by
  simp at hy;subst hy;simp only[Nat.add_zero]at hne ⊢;rw[qac,if_neg hne]
 | x :: r,n,k+1,y,h,hy,hne=>by
  have h0:=h 0 x (by omega) rfl;simp only[Nat.add_zero]at h0;rw[qac,if_pos h0];have e:n+(k+1)=n+1+k:=by omega
  rw[e]at hne ⊢;refine qcB (fun j z hj hz=>?_) (by simpa using hy) hne;have:=h (j+1) z (by omega) (by simpa using hz)
  rwa [Nat.add_comm j 1,← Nat.add_assoc]at this
def qdu {α:Type} (p:α→Bool):Nat→List α→Int
 | _,[]=>-1
 | k,x :: r=>if p x then (k:Int) else qdu p (k+1) r
theorem qcY {α:Type} {p:α→Bool} : ∀ {xs:List α} {n:Nat},(∀(j:Nat) (x:α),xs[j]? = some x→p x=false)→qdu p n xs = -1
 | [],_,_=>rfl
 | x :: r,n,h=>by
  rw[qdu,h 0 x rfl];exact qcY fun j y hy=>h (j+1) y hy
theorem qbq {α:Type} {p:α→Bool} : ∀ {xs:List α} {n k:Nat} {y:α},(∀(j:Nat) (x:α),j<k→xs[j]? = some x→p x=false)→xs[k]? = some y→p y=true→qdu p n xs=((n+k:Nat):Int)
 | x :: r,n,0,y,_,hy,hp=>by
  simp at hy;subst hy;rw[qdu,hp];rfl
 | x :: r,n,k+1,y,h,hy,hp=>by
  rw[qdu,h 0 x (by omega) rfl];have:=qbq (n:=n+1) (k:=k) (y:=y) (fun j z hj hz=>h (j+1) z (by omega) (by simpa using hz)) (by simpa using hy) hp;simp only[Bool.false_eq_true,if_false];rw[this];omega
theorem qbX {α:Type} {p:α→Bool} : ∀ {xs:List α} {n:Nat},decide ((0:Int)≤qdu p n xs)=xs.any p
 | [],_=>rfl
 | x :: r,n=>by
  rw[qdu,List.any_cons];cases h:p x
  ·simp only[Bool.false_eq_true,if_false,Bool.false_or];exact qbX
  ·simp
def eqF {α β:Type} (p:α→β→Bool):List α→List β→Bool
 | [],[]=>true
 | x :: r,y :: s=>p x y && eqF p r s
 | _,_=>false
theorem qox {α β:Type} {p:α→β→Bool} : ∀ {xs:List α} {ys:List β},xs.length≠ys.length→eqF p xs ys=false
 | [],[],h=>absurd rfl h
 | [],_ :: _,_=>rfl
 | _ :: _,[],_=>rfl
 | x :: r,y :: s,h=>by rw[eqF,qox (by simpa using h),Bool.and_false]
theorem qkf {α β:Type} {p:α→β→Bool} : ∀ {xs:List α} {ys:List β},xs.length=ys.length→(∀(j:Nat) (x:α) (y:β),xs[j]? = some x→ys[j]? = some y→p x y=true)→eqF p xs ys=true
 | [],[],_,_=>rfl
 | x :: r,y :: s,hl,h=>by
  rw[eqF,h 0 x y rfl rfl,qkf (by simpa using hl) fun j a b ha hb=>h (j+1) a b ha hb]
  rfl
theorem qhL {α β:Type} {p:α→β→Bool} : ∀ {xs:List α} {ys:List β} {k:Nat} {x:α} {y:β},xs.length=ys.length→xs[k]? = some x→ys[k]? = some y→p x y=false→eqF p xs ys=false
 | u :: r,v :: s,0,x,y,_,hx,hy,hp=>by simp at hx hy;subst hx hy;rw[eqF,hp,Bool.false_and]
 | u :: r,v :: s,k+1,x,y,hl,hx,hy,hp=>by rw[eqF,qhL (k:=k) (by simpa using hl) (by simpa using hx) (by simpa using hy) hp,Bool.and_false]
theorem qnS {α:Type} {p:α→α→Bool} (hp : ∀ x y,p x y=true↔x=y) : ∀ {xs ys:List α},eqF p xs ys=true↔xs=ys
 | [],[]=>by simp[eqF]
 | [],_ :: _=>by simp[eqF]
 | _ :: _,[]=>by simp[eqF]
 | x :: r,y :: s=>by simp[eqF,hp,qnS hp]
theorem qo4 {y z:Rf} (h : ¬ y=z) : ¬ y.p=z.p∨(y.p=z.p∧¬ y.c=z.c):=by
 by_cases e:y.p=z.p
 ·exact .inr ⟨e,fun e2=>h (by cases y;cases z;simp_all)⟩
 ·exact .inl e
theorem qre {y z:Ty} (h : ¬ y=z) : ¬ y.k=z.k∨(y.k=z.k∧¬ y.c.p=z.c.p)∨(y.k=z.k∧y.c.p=z.c.p∧¬ y.c.c=z.c.c):=by
 by_cases e:y.k=z.k
 ·by_cases e1:y.c.p=z.c.p
  ·exact .inr (.inr ⟨e,e1,fun e2=>h (by obtain⟨_,_,_⟩:=y;obtain⟨_,_,_⟩:=z;simp_all)⟩)
  ·exact .inr (.inl ⟨e,e1⟩)
 ·exact .inl e
theorem qf8 {P:Program} {w:World} {src dst e:TypeId} (hs:P.underlying src=some (.slice e)) (he:P.underlying e=some (.int .u8)) (hd:P.underlying dst=some .string)
  {a:Option Addr} {c:Nat} {xs:List Int} (h:qaX w ⟨a,c,xs⟩):(convert src dst (.slice a xs.length c)).run P w = .ok (.string (strOfNums xs)) w:=by
 cases xs with
 | nil =>
  cases a with
  | none=>rw[run_convert_bytes_nil w src e hs he _ _ dst hd];rfl
  | some x=>obtain⟨b,o,s⟩:=x;cases s with
   | none=>exact run_convert_bytes_arg w src e hs he b o 0 c [] rfl (fun i hi=>absurd hi (by omega)) dst hd
   | some s =>
    rw[run_convert_bytes_string w src dst e _ _ c hs he hd];have:(loadCells ⟨b,o,some s⟩ 0).run P w = .ok (([]:List Int).map (Value.int .u8)).toArray w:=run_loadCells_list (P:=P) w ⟨b,o,some s⟩ [] (fun j v hj=>by simp at hj);rw[show(([]:List Int).length)=0 from rfl,run_bytesToString w _ 0 c [] this];rfl
 | cons x r =>
  obtain⟨_,b,off,ha,_,_⟩:=h.at_ 0 x rfl;simp only at ha;subst ha;refine run_convert_bytes_arg w src e hs he b off _ c (x :: r) rfl (fun i hi=>?_) dst hd;obtain⟨y,hy⟩:=getElem?_of_lt hi;obtain⟨_,b',off',ha,_,hc⟩:=h.at_ i y hy;simp only[Option.some.injEq,Addr.mk.injEq]at ha;obtain⟨rfl,rfl,_⟩:=ha;have:=hc 0 _ rfl;simp only[Nat.mul_one,Nat.add_zero]at this;rw[this,List.getD_eq_getElem?_getD,hy];rfl
theorem qdY : ∀ {xs ys:List Int},(∀ x∈xs,0≤x∧x≤255)→(∀ x∈ys,0≤x∧x≤255)→(strOfNums xs).data.toList=(strOfNums ys).data.toList→xs=ys
 | [],[],_,_,_=>rfl
 | [],_ :: _,_,_,h=>by simp[strOfNums]at h
 | _ :: _,[],_,_,h=>by simp[strOfNums]at h
 | x :: r,y :: s,h1,h2,h=>by
  simp only[strOfNums,List.map_cons,List.cons.injEq]at h;obtain⟨h3,h4⟩:=h;have e:x=y:=by
   have a1:=h1 x (by simp);have a2:=h2 y (by simp);have:=congrArg UInt8.toNat h3;simp at this;omega
  rw[e,qdY (fun z hz=>h1 z (by simp[hz])) (fun z hz=>h2 z (by simp[hz])) h4]
theorem qaX.range {w:World} {s:Sl Int} (h:qaX w s) : ∀ x∈s.xs,0≤x∧x≤255:=fun x hx=>by
 obtain⟨k,hk,rfl⟩:=List.getElem_of_mem hx;exact(h.at_ k _ (List.getElem?_eq_getElem hk)).1
def bEq (xs ys:List Int):Bool:=decide (xs=ys)
theorem qrJ {w:World} {s t:Sl Int} (hs:qaX w s) (ht:qaX w t):((strOfNums s.xs).toList == (strOfNums t.xs).toList)=bEq s.xs t.xs:=by
 have e : ∀ l:List Int,(strOfNums l).toList=(strOfNums l).data.toList:=fun l=>by simp[ByteArray.toList_eq]
 rw[e,e];unfold bEq;by_cases h:s.xs=t.xs
 ·simp[h]
 ·have : ¬(strOfNums s.xs).data.toList=(strOfNums t.xs).data.toList:=fun h'=>h (qdY hs.range ht.range h')
  simp only[h,decide_false];exact beq_eq_false_iff_ne.2 this
def qrQ (x y:Rf):Bool:=decide (x.p=y.p) && decide (x.c=y.c)
structure CellAt (w:World) (b o:Nat) (v:Value):Prop where
 lt:b<w.heap.size
 at_:w.cell? ⟨b,o,none⟩=some v
theorem CellAt.mono {w w':World} {b o:Nat} {v:Value} (h:CellAt w b o v) (hb:Below w.heap.size w w'):CellAt w' b o v :=
 ⟨Nat.lt_of_lt_of_le h.lt hb.size,(hb.cell (p:=⟨b,o,none⟩) h.lt).trans h.at_⟩
theorem CellAt.new (w:World) (cs:Array Value) (t:TypeId) (o:Nat) (v:Value) (h:cs[o]? = some v):CellAt (w.alloc (.cells cs t)) w.heap.size o v :=
 ⟨by simp,by rw[World.cell?_alloc_new];exact h⟩
structure PkAt (w:World) (b:Nat) (p:Pk):Prop where
 lt:b<w.heap.size
 c0:w.cell? ⟨b,0,none⟩=some (.slice p.aid.a p.aid.xs.length p.aid.c)
 c1:w.cell? ⟨b,1,none⟩=some (Z p.major)
 c2:w.cell? ⟨b,2,none⟩=some (Z p.minor)
 c3:w.cell? ⟨b,3,none⟩=some (.slice p.imports.a p.imports.xs.length p.imports.c)
 c4:w.cell? ⟨b,4,none⟩=some (.slice p.classes.a p.classes.xs.length p.classes.c)
 c5:w.cell? ⟨b,5,none⟩=some (.slice p.methods.a p.methods.xs.length p.methods.c)
 c6:w.cell? ⟨b,6,none⟩=some (.slice p.statics.a p.statics.xs.length p.statics.c)
 c7:w.cell? ⟨b,7,none⟩=some (.slice p.applets.a p.applets.xs.length p.applets.c)
theorem PkAt.mono {w w':World} {b:Nat} {p:Pk} (h:PkAt w b p) (hb:Below w.heap.size w w'):PkAt w' b p:=by
 have k : ∀ o,w'.cell? ⟨b,o,none⟩=w.cell? ⟨b,o,none⟩:=fun o=>hb.cell (p:=⟨b,o,none⟩) h.lt
 exact⟨Nat.lt_of_lt_of_le h.lt hb.size,(k _).trans h.c0,(k _).trans h.c1,(k _).trans h.c2,(k _).trans h.c3,(k _).trans h.c4,(k _).trans h.c5,(k _).trans h.c6,(k _).trans h.c7⟩
theorem PkAt.new (w:World) (p:Pk) (t:TypeId):PkAt (w.alloc (.cells #[.slice p.aid.a p.aid.xs.length p.aid.c,Z p.major,Z p.minor,.slice p.imports.a p.imports.xs.length p.imports.c,.slice p.classes.a p.classes.xs.length p.classes.c,.slice p.methods.a p.methods.xs.length p.methods.c,.slice p.statics.a p.statics.xs.length p.statics.c,.slice p.applets.a p.applets.xs.length p.applets.c] t)) w.heap.size p:=by
 constructor <;> first|(simp;done)|(rw[World.cell?_alloc_new];rfl)
abbrev Sl.take {α:Type} (s:Sl α) (k:Nat):Sl α:=⟨s.a,s.c,s.xs.take k⟩
theorem Sl.Ok.take {α:Type} {E:El α} {m:Nat} {w:World} {s:Sl α} (h:s.Ok E m w) (k:Nat):(s.take k).Ok E m w :=
 ⟨by have:=h.le;simp;omega,h.max,h.nil,fun j x hx=>h.at_ j x (by
  simp only[List.getElem?_take]at hx
  split at hx
  ·exact hx
  ·cases hx)⟩
theorem Sl.take_len {α:Type} {s:Sl α} {k:Nat} (h:k≤s.xs.length):(s.xs.take k).length=k:=by simp;omega
structure ClAt (w:World) (b:Nat) (x:Cl):Prop where
 lt:b<w.heap.size
 c0:w.cell? ⟨b,0,none⟩=some (Z x.super.p)
 c1:w.cell? ⟨b,1,none⟩=some (Z x.super.c)
 c2:w.cell? ⟨b,2,none⟩=some (.bool x.isI)
 c3:w.cell? ⟨b,3,none⟩=some (.slice x.ext.a x.ext.xs.length x.ext.c)
 c4:w.cell? ⟨b,4,none⟩=some (.slice x.fields.a x.fields.xs.length x.fields.c)
 c5:w.cell? ⟨b,5,none⟩=some (.slice x.virt.a x.virt.xs.length x.virt.c)
 c6:w.cell? ⟨b,6,none⟩=some (.slice x.impls.a x.impls.xs.length x.impls.c)
theorem ClAt.mono {w w':World} {b:Nat} {x:Cl} (h:ClAt w b x) (hb:Below w.heap.size w w'):ClAt w' b x:=by
 have k : ∀ o,w'.cell? ⟨b,o,none⟩=w.cell? ⟨b,o,none⟩:=fun o=>hb.cell (p:=⟨b,o,none⟩) h.lt
 exact⟨Nat.lt_of_lt_of_le h.lt hb.size,(k _).trans h.c0,(k _).trans h.c1,(k _).trans h.c2,(k _).trans h.c3,(k _).trans h.c4,(k _).trans h.c5,(k _).trans h.c6⟩
theorem ClAt.new (w:World) (x:Cl) (t:TypeId):ClAt (w.alloc (.cells #[Z x.super.p,Z x.super.c,.bool x.isI,.slice x.ext.a x.ext.xs.length x.ext.c,.slice x.fields.a x.fields.xs.length x.fields.c,.slice x.virt.a x.virt.xs.length x.virt.c,.slice x.impls.a x.impls.xs.length x.impls.c] t)) w.heap.size x:=by
 constructor <;> first|(simp;done)|(rw[World.cell?_alloc_new];rfl)
structure MeAt (w:World) (b:Nat) (x:Me):Prop where
 lt:b<w.heap.size
 c0:w.cell? ⟨b,0,none⟩=some (.bool x.static)
 c1:w.cell? ⟨b,1,none⟩=some (.bool x.abs)
 c2:w.cell? ⟨b,2,none⟩=some (Z x.cls)
 c3:w.cell? ⟨b,3,none⟩=some (.slice x.params.a x.params.xs.length x.params.c)
 c4:w.cell? ⟨b,4,none⟩=some (Z x.result.k)
 c5:w.cell? ⟨b,5,none⟩=some (Z x.result.c.p)
 c6:w.cell? ⟨b,6,none⟩=some (Z x.result.c.c)
 c7:w.cell? ⟨b,7,none⟩=some (Z x.locals)
 c8:w.cell? ⟨b,8,none⟩=some (Z x.stack)
 c9:w.cell? ⟨b,9,none⟩=some (.slice x.code.a x.code.xs.length x.code.c)
 c10:w.cell? ⟨b,10,none⟩=some (.slice x.hs.a x.hs.xs.length x.hs.c)
theorem MeAt.mono {w w':World} {b:Nat} {x:Me} (h:MeAt w b x) (hb:Below w.heap.size w w'):MeAt w' b x:=by
 have k : ∀ o,w'.cell? ⟨b,o,none⟩=w.cell? ⟨b,o,none⟩:=fun o=>hb.cell (p:=⟨b,o,none⟩) h.lt
 exact⟨Nat.lt_of_lt_of_le h.lt hb.size,(k _).trans h.c0,(k _).trans h.c1,(k _).trans h.c2,(k _).trans h.c3,(k _).trans h.c4,(k _).trans h.c5,(k _).trans h.c6,(k _).trans h.c7,(k _).trans h.c8,(k _).trans h.c9,(k _).trans h.c10⟩
theorem MeAt.new (w:World) (x:Me) (t:TypeId):MeAt (w.alloc (.cells #[.bool x.static,.bool x.abs,Z x.cls,.slice x.params.a x.params.xs.length x.params.c,Z x.result.k,Z x.result.c.p,Z x.result.c.c,Z x.locals,Z x.stack,.slice x.code.a x.code.xs.length x.code.c,.slice x.hs.a x.hs.xs.length x.hs.c] t)) w.heap.size x:=by
 constructor <;> first|(simp;done)|(rw[World.cell?_alloc_new];rfl)
structure ObjAt (w:World) (g:Nat):Prop where
 lt:g<w.heap.size
 c0:w.cell? ⟨g,0,none⟩=some (Z 255)
 c1:w.cell? ⟨g,1,none⟩=some (Z 0)
theorem ObjAt.mono {w w':World} {g:Nat} (h:ObjAt w g) (hb:Below w.heap.size w w'):ObjAt w' g :=
 ⟨Nat.lt_of_lt_of_le h.lt hb.size,(hb.cell (p:=⟨g,0,none⟩) h.lt).trans h.c0,(hb.cell (p:=⟨g,1,none⟩) h.lt).trans h.c1⟩
theorem CellAt.new_at (w:World) (cs:Array Value) (t:TypeId) (o:Nat) (v:Value) (b:Nat) (hb:b=w.heap.size) (h:cs[o]? = some v):CellAt (w.alloc (.cells cs t)) b o v:=by subst hb;exact CellAt.new w cs t o v h
theorem ClAt.new_at (w:World) (x:Cl) (t:TypeId) (b:Nat) (hb:b=w.heap.size):ClAt (w.alloc (.cells #[Z x.super.p,Z x.super.c,.bool x.isI,.slice x.ext.a x.ext.xs.length x.ext.c,.slice x.fields.a x.fields.xs.length x.fields.c,.slice x.virt.a x.virt.xs.length x.virt.c,.slice x.impls.a x.impls.xs.length x.impls.c] t)) b x:=by subst hb;exact ClAt.new w x t
theorem MeAt.new_at (w:World) (x:Me) (t:TypeId) (b:Nat) (hb:b=w.heap.size):MeAt (w.alloc (.cells #[.bool x.static,.bool x.abs,Z x.cls,.slice x.params.a x.params.xs.length x.params.c,Z x.result.k,Z x.result.c.p,Z x.result.c.c,Z x.locals,Z x.stack,.slice x.code.a x.code.xs.length x.code.c,.slice x.hs.a x.hs.xs.length x.hs.c] t)) b x:=by subst hb;exact MeAt.new w x t
theorem qcr (w:World) (o:Obj):Below w.heap.size w (w.alloc o):=(Below.refl _ _).alloc (Nat.le_refl _) o
abbrev qey (p:Pk) (za:Option Addr):Array Value:=#[.slice p.aid.a p.aid.xs.length p.aid.c,Z p.major,Z p.minor,.slice p.imports.a p.imports.xs.length p.imports.c,.slice za p.classes.xs.length p.classes.c,.slice p.methods.a p.methods.xs.length p.methods.c,.slice p.statics.a p.statics.xs.length p.statics.c,.slice p.applets.a p.applets.xs.length p.applets.c]
abbrev qjj (x:Cl) (b:Bool):Array Value:=#[Z x.super.p,Z x.super.c,.bool b,.slice x.ext.a x.ext.xs.length x.ext.c,.slice x.fields.a x.fields.xs.length x.fields.c,.slice x.virt.a x.virt.xs.length x.virt.c,.slice x.impls.a x.impls.xs.length x.impls.c]
abbrev qmi (x:Me) (b c:Bool) (z:Int):Array Value:=#[.bool b,.bool c,Z z,.slice x.params.a x.params.xs.length x.params.c,Z x.result.k,Z x.result.c.p,Z x.result.c.c,Z x.locals,Z x.stack,.slice x.code.a x.code.xs.length x.code.c,.slice x.hs.a x.hs.xs.length x.hs.c]
theorem qtt (w:World) (p:Pk) (n:Int) (x:Cl) {b:Bool} (hb:x.isI=b) (t1 t2 t3:TypeId) :
  PkAt (((w.alloc (.cells (qey p p.classes.a) t1)).alloc (.cells #[Z n] t2)).alloc (.cells (qjj x b) t3)) w.heap.size p ∧
  CellAt (((w.alloc (.cells (qey p p.classes.a) t1)).alloc (.cells #[Z n] t2)).alloc (.cells (qjj x b) t3)) (w.heap.size+1) 0 (Z n) ∧
  ClAt (((w.alloc (.cells (qey p p.classes.a) t1)).alloc (.cells #[Z n] t2)).alloc (.cells (qjj x b) t3)) (w.heap.size+2) x:=by
 subst hb;exact⟨((PkAt.new w p t1).mono (qcr _ _)).mono (qcr _ _),(CellAt.new_at _ _ _ 0 _ _ (by simp) rfl).mono (qcr _ _),ClAt.new_at _ x _ _ (by simp)⟩
theorem qrF (w:World) (p:Pk) (x:Me) {b c:Bool} (hb:x.static=b) (hc:x.abs=c) {z:Int} (hz:x.cls=z) {za:Option Addr} (hza:p.classes.a=za) (t1 t2:TypeId) :
  PkAt ((w.alloc (.cells (qey p za) t1)).alloc (.cells (qmi x b c z) t2)) w.heap.size p ∧
  MeAt ((w.alloc (.cells (qey p za) t1)).alloc (.cells (qmi x b c z) t2)) (w.heap.size+1) x:=by
 subst hb hc hz hza;exact⟨(PkAt.new w p t1).mono (qcr _ _),MeAt.new_at _ x _ _ (by simp)⟩
abbrev Rr (α:Type):=List Int→Except Int (α × List Int)
def Rr.pure {α:Type} (x:α):Rr α:=fun b=>.ok (x,b)
def Rr.fail {α:Type} (e:Int):Rr α:=fun _=>.error e
def Rr.bind {α β:Type} (p:Rr α) (f:α→Rr β):Rr β:=fun b=>match p b with | .ok (x,r)=>f x r | .error e=>.error e
def qsH:Rr Int
 | []=>.error 5
 | x :: r=>.ok (x,r)
def qvO {α:Type} (f:Rr α):Nat→Rr (List α)
 | 0=>Rr.pure []
 | n+1=>f.bind fun x=>(qvO f n).bind fun xs=>Rr.pure (x :: xs)
def qum {α:Type} (f:Rr α):Rr (List α):=qsH.bind fun n=>qvO f n.toNat
abbrev Sl.er {α:Type} (xs:List α):Sl α:=⟨none,0,xs⟩
def qvL:Rr Rf:=qsH.bind fun p=>qsH.bind fun c=>Rr.pure ⟨p,c⟩
def ql9:Rr Ty:=qsH.bind fun k=>if 5<k then Rr.fail 4 else if k=5 then qvL.bind fun c=>Rr.pure ⟨k,c⟩ else Rr.pure ⟨k,⟨0,0⟩⟩
def qd3:Rr Im:=qvL.bind fun i=>(qum qsH).bind fun ms=>Rr.pure ⟨i,.er ms⟩
end Go.Sc
end
