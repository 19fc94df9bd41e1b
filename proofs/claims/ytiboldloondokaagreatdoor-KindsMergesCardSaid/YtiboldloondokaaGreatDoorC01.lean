/- Part of a proof. -/
import Derived.Test.YtiboldloondokaaGreatDoorC00
import Derived.WalkKit
import Derived.ProofKit
import Derived.OpenShut
import Derived.ChangeOld
import Derived.Carry
import Derived.BigQuiet
import Derived.Handy
import Derived.Laws.EntriesVeiled
import Derived.WalkLawsBesides
import Derived.Laws.BytesArg
set_option maxRecDepth 100000
set_option maxHeartbeats 8000000
section
namespace Go.Sc
open Go.ChangeShapes Go.WideShapes Go.ChangeAt Go.RowKit
structure Ext (W:World) where
 val:World
 below:Below W.heap.size W val
instance {W:World}:Nonempty (Ext W):=⟨⟨W,Below.refl _ _⟩⟩
theorem Ext.size {W:World} (x:Ext W):W.heap.size≤x.val.heap.size:=x.below.size
class InW (b:Nat) (W:World):Prop where
 lt:b<W.heap.size
instance InW.ext {b:Nat} {W:World} [h:InW b W] (x:Ext W):InW b x.val:=⟨Nat.lt_of_lt_of_le h.lt x.size⟩
instance InW.alloc {b:Nat} {W:World} [h:InW b W] (o:Obj):InW b (W.alloc o):=⟨by have:=h.lt;simp;omega⟩
instance InW.new0 {W:World} (o:Obj):InW W.heap.size (W.alloc o):=⟨by simp⟩
instance InW.new1 {W:World} (o o1:Obj):InW (W.heap.size+1) ((W.alloc o).alloc o1):=⟨by simp⟩
instance InW.new2 {W:World} (o o1 o2:Obj):InW (W.heap.size+2) (((W.alloc o).alloc o1).alloc o2):=⟨by simp⟩
instance InW.new3 {W:World} (o o1 o2 o3:Obj):InW (W.heap.size+3) ((((W.alloc o).alloc o1).alloc o2).alloc o3):=⟨by simp⟩
instance InW.new4 {W:World} (o o1 o2 o3 o4:Obj):InW (W.heap.size+4) (((((W.alloc o).alloc o1).alloc o2).alloc o3).alloc o4):=⟨by simp⟩
instance InW.drew {b:Nat} {W:World} [h:InW b W]:InW b W.drew:=⟨h.lt⟩
instance InW.setCell {b:Nat} {W:World} [h:InW b W] (a:Addr) (v:Value):InW b (W.setCell a v):=⟨by have:=h.lt;simpa [World.setCell] using this⟩
@[go_sem] theorem Ext.cell {W:World} (x:Ext W) (b o:Nat) [h:InW b W]:x.val.cell? ⟨b,o,none⟩=W.cell? ⟨b,o,none⟩:=x.below.cell (p:=⟨b,o,none⟩) h.lt
@[go_sem] theorem Ext.frozen {W:World} (x:Ext W) (b o:Nat) [h:InW b W]:x.val.frozen? ⟨b,o,none⟩=W.frozen? ⟨b,o,none⟩:=x.below.frozen (p:=⟨b,o,none⟩) h.lt
@[go_sem] theorem alloc_cell_in {W:World} (ob:Obj) (b o:Nat) [h:InW b W]:(W.alloc ob).cell? ⟨b,o,none⟩=W.cell? ⟨b,o,none⟩:=World.cell?_alloc_lt W ob ⟨b,o,none⟩ h.lt
@[go_sem] theorem alloc_frozen_in {W:World} (ob:Obj) (b o:Nat) [h:InW b W]:(W.alloc ob).frozen? ⟨b,o,none⟩=W.frozen? ⟨b,o,none⟩:=World.frozen?_alloc_old W ob ⟨b,o,none⟩ (by have:=h.lt;simp;omega)
theorem Ext.le_size {W:World} (x:Ext W) {b:Nat} (h:b≤W.heap.size):b≤x.val.heap.size:=Nat.le_trans h x.size
theorem le_alloc {W:World} {o:Obj} {b:Nat} (h:b≤W.heap.size):b≤(W.alloc o).heap.size:=by simp;omega
theorem le_drew {W:World} {b:Nat} (h:b≤W.heap.size):b≤W.drew.heap.size:=h
theorem le_setCell {W:World} {a:Addr} {v:Value} {b:Nat} (h:b≤W.heap.size):b≤(W.setCell a v).heap.size:=by simpa [World.setCell] using h
theorem below_ext {B:Nat} {a W:World} (x:Ext W) (hB:B≤W.heap.size) (h:Below B a W):Below B a x.val:=h.trans (x.below.mono hB)
theorem wp_region_ext {P:Program} {id:Nat} {Q:Exit→Act→World→Prop} {a:Act} {w:World} {l:List Oper} (hm:P.follows .mixedOrders=true) (hB:Region.lexB .any l.toArray=true)
  (h:wpQuiet P l.toArray (fun w'=>∃ x:Ext w,w'=x.val) (fun a'=>∀ x:Ext w,Q .normal a' x.val) l a):(Code.region id l.toArray true).wp P Q a w:=by
 refine wp_region_quiet (C:=fun w'=>∃ x:Ext w,w'=x.val) hm hB ⟨⟨w.drew,(Below.refl _ _).drew⟩,rfl⟩ ?_
 have e:(fun a'=>∀ w',(∃ x:Ext w,w'=x.val)→Q .normal a' w')=(fun a'=>∀ x:Ext w,Q .normal a' x.val):=by
  funext a';apply propext;constructor
  ·intro h x;exact h _ ⟨x,rfl⟩
  ·rintro h w' ⟨x,rfl⟩;exact h x
 rw[e];simpa using h
def Gives (P:Program) (f:FuncId) (args:Array Value) (w:World) (v:Value):Prop :=
 Calls P f args w fun e w'=>e = .returned v∧Below w.heap.size w w'
theorem Gives.go {P:Program} {f:FuncId} {args:Array Value} {w:World} {v:Value} (h:Gives P f args w v):Calls P f args w fun e w'=>e = .returned v∧∃ x:Ext w,w'=x.val :=
 h.mono fun _ w' ⟨he,hb⟩=>⟨he,⟨w',hb⟩,rfl⟩
theorem Gives.at {P:Program} {f:FuncId} {args:Array Value} {W:World} {x:Ext W} {v:Value} (h:Gives P f args x.val v):Calls P f args x.val fun e w'=>e = .returned v∧∃ y:Ext W,w'=y.val :=
 h.mono fun _ _ ⟨he,hb⟩=>⟨he,⟨_,x.below.trans (hb.mono x.size)⟩,rfl⟩
theorem gives_eq {P:Program} {f:FuncId} {args:Array Value} {w:World} {v u:Value} (h:Gives P f args w v) (e:v=u):Gives P f args w u:=e ▸ h
theorem hid {p:Prop} (h:p):Hid p:=h
theorem ret_bool {a b:Bool} (h:a=b):Ending.returned (.bool a) = .returned (.bool b):=by rw[h]
theorem ret_int {k:IntKind} {a b:Int} (h:a=b):Ending.returned (.int k a) = .returned (.int k b):=by rw[h]
theorem ret_val {a b:Value} (h:a=b):Ending.returned a = .returned b:=by rw[h]
theorem END {p:Prop} (h:p:=by with_reducible repeat' (first|exact Below.refl _ _|exact Nat.le_refl _|refine Below.alloc ?_ ?_ _|refine below_ext _ ?_ ?_|refine Below.drew ?_|refine Below.setCell ?_ ?_ _|refine le_alloc ?_|refine Ext.le_size _ ?_|refine le_drew ?_|refine le_setCell ?_)):p:=h
theorem ENDX {p:Prop} (h:p:=by(with_reducible repeat' (first|exact Hid.out (by assumption)|exact Below.refl _ _|exact Nat.le_refl _|refine Below.alloc ?_ ?_ _|refine below_ext _ ?_ ?_|refine Below.drew ?_|refine Below.setCell ?_ ?_ _|refine le_alloc ?_|refine Ext.le_size _ ?_|refine le_drew ?_|refine le_setCell ?_));(all_goals (first|omega|(simp;done)|(simp;omega)))):p:=h
theorem OM {p:Prop} (h:p:=by first|omega|(simp;done)|(simp;omega)):p:=h
section
variable {H:Type} {enc:TypeId × Value→H} {P:Program}
theorem trodAll_below {W W':World} (hl:laidOutB P=true) (hb:Below W.heap.size W W') : ∀ {ts:List TypeId} {vs:List Value} {ds:List (DataW H)} {ps:List MemPlace},
  (ts.all fun t=>P.readableRec t && decide (t<P.types.size))=true→DataW.TrodAll enc P W 0 (fun _=>true) true ts vs ds ps →
  DataW.TrodAll enc P W' 0 (fun b=>decide (b<W.heap.size)) true ts vs ds ps
 | [],[],[],ps,_,h=>h
 | t :: ts,v :: vs,d :: ds,ps,hr,h=>by
  obtain⟨p,q,h1,h2,rfl⟩:=h
  simp only[List.all_cons,Bool.and_eq_true,decide_eq_true_eq]at hr
  obtain⟨m,hm⟩:=h1
  exact⟨p,q,Below.trod hl hr.1.1 hr.1.2 ⟨m,hm⟩ hb (fun x hx=>DataW.trod_lt m _ _ _ hm x hx),trodAll_below hl hb hr.2 h2,rfl⟩
theorem trodAll_len {W:World} {base:Nat} {sp:Nat→Bool} {held:Bool} : ∀ {ts:List TypeId} {vs:List Value} {ds:List (DataW H)} {ps:List MemPlace},DataW.TrodAll enc P W base sp held ts vs ds ps→ds.length=ts.length
 | [],[],[],_,_=>rfl
 | t :: ts,v :: vs,d :: ds,ps,h=>by obtain⟨p,q,_,h2,_⟩:=h;simp[trodAll_len h2]
theorem law_returns {C:Checked} {os:Os} {f:FuncId} {fn:Func} {s:ChangeSpec} {tb:TypeId}
  (own:ownKnob C.prog.godebug=none) (started:os.Started) (noInit:C.prog.inits.idxOf? f=none) (hfn:C.prog.funcs[f]? = some fn)
  (witness : ∃(w:World) (tape:Tape) (i:Input),w.os=os∧(w.forCall tape i).Shaped C.prog∧i.vars=[]∧Input.okWide C.prog (w.forCall tape i) .any w.heap.size f i ∧
   s.pre6 enc C.prog fn [] false (w.forCall tape i).memory i.args∧Assume.holds {} C.prog (lone (Frame.enter C.prog f i.args .normal) [] (w.forCall tape i)))
  (hres:fn.resultTypes = #[tb]) (htb:C.prog.underlying tb=some .bool) (hvars:s.vars=[]) (laid:laidOutB C.prog=true)
  (readable:(fn.params.toList.all fun t=>C.prog.readableRec t && decide (t<C.prog.types.size))=true)
  (hspec : ∀ ds:List (DataW H),ds.length=fn.params.toList.length→s.fn H ds={ results:=[.lit (.bool true)],args:=ds })
  (walk : ∀(W:World) (base:Nat) (args:Array Value) (ds:List (DataW H)) (ps:List MemPlace),
   (∀(j:Nat) t v,fn.params[j]? = some t→args[j]? = some v→Value.okWide C.prog W .any base t v) →
   DataW.TrodAll enc C.prog W 0 (fun _=>true) true fn.params.toList args.toList ds ps→Gives C.prog f args W (.bool true)) :
  ReturnsInHanded {} C os f .any (s.pre6 enc C.prog fn [] false) (s.post enc C.prog fn false true false false):=by
 refine returnsInHanded_of_change own started noInit hfn witness ?_
 intro W base args ds gs before hval hW hcnd _
 have hW':=hW
 obtain⟨p,q,hA,hV,rfl,hfz,hnd⟩:=hW
 rw[hvars]at hV
 have hgs:gs=[]∧q=[]:=by
  cases gs with
  | nil=>exact⟨rfl,hV⟩
  | cons g gs=>exact hV.elim
 obtain⟨rfl,rfl⟩:=hgs
 refine Calls.mono (walk W base args ds p hval hA) fun e W' ⟨he,hb⟩=>?_
 have hs:=hspec (ds ++ []) (by simpa using trodAll_len hA)
 refine⟨_,he,ds,[],p ++ [],[],p,[],hW',?_,?_,?_,?_,fun h=>by cases h⟩
 ·rw[hs,hres];exact trodAll_mk1 (shut_bool htb _)
 ·rw[hs];simp only[List.append_nil];exact trodAll_below laid hb readable hA
 ·rw[hvars]
  have:(s.fn H (ds ++ [])).vars=[]:=by rw[hs]
  rw[this];exact rfl
 ·exact hb.frame _
end
#print axioms law_returns
end Go.Sc
end
section
namespace Go.Sc
open Go.RowKit
structure Sl (α:Type) where
 a:Option Addr
 c:Nat
 xs:List α
abbrev Sl.v {α:Type} (s:Sl α):Value:=.slice s.a s.xs.length s.c
structure Rf where
 p:Int
 c:Int
deriving DecidableEq
structure Ty where
 k:Int
 c:Rf
deriving DecidableEq
structure In where
 op:Int
 a:Int
 b:Int
 c:Int
deriving DecidableEq
structure Hd where
 f:Int
 t:Int
 g:Int
 w:Int
deriving DecidableEq
structure Im where
 i:Rf
 ms:Sl Int
structure Ip where
 aid:Sl Int
 major:Int
 minor:Int
structure Ap where
 aid:Sl Int
 cls:Int
 inst:Int
structure Cl where
 super:Rf
 isI:Bool
 ext:Sl Rf
 fields:Sl Ty
 virt:Sl Int
 impls:Sl Im
structure Me where
 static:Bool
 abs:Bool
 cls:Int
 params:Sl Ty
 result:Ty
 locals:Int
 stack:Int
 code:Sl In
 hs:Sl Hd
structure Pk where
 aid:Sl Int
 major:Int
 minor:Int
 imports:Sl Ip
 classes:Sl Cl
 methods:Sl Me
 statics:Sl Ty
 applets:Sl Ap
abbrev Rf.v (r:Rf):Value:=.agg #[.int .i64 r.p,.int .i64 r.c]
abbrev Ty.v (t:Ty):Value:=.agg #[.int .i64 t.k,.int .i64 t.c.p,.int .i64 t.c.c]
abbrev In.v (i:In):Value:=.agg #[.int .i64 i.op,.int .i64 i.a,.int .i64 i.b,.int .i64 i.c]
abbrev Hd.v (h:Hd):Value:=.agg #[.int .i64 h.f,.int .i64 h.t,.int .i64 h.g,.int .i64 h.w]
abbrev Im.v (x:Im):Value:=.agg #[.int .i64 x.i.p,.int .i64 x.i.c,.slice x.ms.a x.ms.xs.length x.ms.c]
abbrev Ip.v (x:Ip):Value:=.agg #[.slice x.aid.a x.aid.xs.length x.aid.c,.int .i64 x.major,.int .i64 x.minor]
abbrev Ap.v (x:Ap):Value:=.agg #[.slice x.aid.a x.aid.xs.length x.aid.c,.int .i64 x.cls,.int .i64 x.inst]
abbrev Cl.v (x:Cl):Value:=.agg #[.int .i64 x.super.p,.int .i64 x.super.c,.bool x.isI,.slice x.ext.a x.ext.xs.length x.ext.c,.slice x.fields.a x.fields.xs.length x.fields.c,.slice x.virt.a x.virt.xs.length x.virt.c,.slice x.impls.a x.impls.xs.length x.impls.c]
abbrev Me.v (x:Me):Value:=.agg #[.bool x.static,.bool x.abs,.int .i64 x.cls,.slice x.params.a x.params.xs.length x.params.c,.int .i64 x.result.k,.int .i64 x.result.c.p,.int .i64 x.result.c.c,.int .i64 x.locals,.int .i64 x.stack,.slice x.code.a x.code.xs.length x.code.c,.slice x.hs.a x.hs.xs.length x.hs.c]
abbrev Pk.v (p:Pk):Value:=.agg #[.slice p.aid.a p.aid.xs.length p.aid.c,.int .i64 p.major,.int .i64 p.minor,.slice p.imports.a p.imports.xs.length p.imports.c,.slice p.classes.a p.classes.xs.length p.classes.c,.slice p.methods.a p.methods.xs.length p.methods.c,.slice p.statics.a p.statics.xs.length p.statics.c,.slice p.applets.a p.applets.xs.length p.applets.c]
structure El (α:Type) where
 cells:α→List Value
 ok:World→α→Prop
 mono : ∀ {w w':World} {x:α},Below w.heap.size w w'→ok w x→ok w' x
structure Sl.Ok {α:Type} (E:El α) (m:Nat) (w:World) (s:Sl α):Prop where
 le:s.xs.length≤s.c
 max:s.c≤9223372036854775807
 nil:s.a=none→s.c=0
 at_ : ∀(k:Nat) (x:α),s.xs[k]? = some x→E.ok w x∧∃ b off,s.a=some ⟨b,off,none⟩∧b<w.heap.size∧∀(j:Nat) (v:Value),(E.cells x)[j]? = some v→w.cell? ⟨b,off+k * m+j,none⟩=some v
theorem Sl.Ok.mono {α:Type} {E:El α} {m:Nat} {w w':World} {s:Sl α} (h:s.Ok E m w) (hb:Below w.heap.size w w'):s.Ok E m w' :=
 ⟨h.le,h.max,h.nil,fun k x hx=>by
  obtain⟨h1,b,off,h2,h3,h4⟩:=h.at_ k x hx
  exact⟨E.mono hb h1,b,off,h2,Nat.lt_of_lt_of_le h3 hb.size,fun j v hv=>(hb.cell (p:=⟨b,_,none⟩) h3).trans (h4 j v hv)⟩⟩
def byt (x:Int):Prop:=0≤x∧x≤255
def eByte:El Int:=⟨fun n=>[.int .u8 n],fun _ n=>0≤n∧n≤255,fun _ h=>h⟩
def eInt:El Int:=⟨fun n=>[.int .i64 n],fun _ n=>-9223372036854775808≤n∧n≤9223372036854775807,fun _ h=>h⟩
def i64ok (n:Int):Prop:=-9223372036854775808≤n∧n≤9223372036854775807
def eRf:El Rf:=⟨fun r=>[.int .i64 r.p,.int .i64 r.c],fun _ r=>i64ok r.p∧i64ok r.c,fun _ h=>h⟩
def Ty.Ok (t:Ty):Prop:=i64ok t.k∧i64ok t.c.p∧i64ok t.c.c
def eTy:El Ty:=⟨fun t=>[.int .i64 t.k,.int .i64 t.c.p,.int .i64 t.c.c],fun _ t=>t.Ok,fun _ h=>h⟩
def eIn:El In:=⟨fun i=>[.int .i64 i.op,.int .i64 i.a,.int .i64 i.b,.int .i64 i.c],fun _ i=>i64ok i.op∧i64ok i.a∧i64ok i.b∧i64ok i.c,fun _ h=>h⟩
def eHd:El Hd:=⟨fun i=>[.int .i64 i.f,.int .i64 i.t,.int .i64 i.g,.int .i64 i.w],fun _ i=>i64ok i.f∧i64ok i.t∧i64ok i.g∧i64ok i.w,fun _ h=>h⟩
abbrev Bytes (w:World) (s:Sl Int):Prop:=s.Ok eByte 1 w
abbrev Ints (w:World) (s:Sl Int):Prop:=s.Ok eInt 1 w
def Im.Ok (w:World) (x:Im):Prop:=i64ok x.i.p∧i64ok x.i.c∧Ints w x.ms
def eIm:El Im:=⟨fun x=>[.int .i64 x.i.p,.int .i64 x.i.c,.slice x.ms.a x.ms.xs.length x.ms.c],Im.Ok,fun hb h=>⟨h.1,h.2.1,h.2.2.mono hb⟩⟩
def Ip.Ok (w:World) (x:Ip):Prop:=Bytes w x.aid∧i64ok x.major∧i64ok x.minor
def eIp:El Ip:=⟨fun x=>[.slice x.aid.a x.aid.xs.length x.aid.c,.int .i64 x.major,.int .i64 x.minor],Ip.Ok,fun hb h=>⟨h.1.mono hb,h.2⟩⟩
def Ap.Ok (w:World) (x:Ap):Prop:=Bytes w x.aid∧i64ok x.cls∧i64ok x.inst
def eAp:El Ap:=⟨fun x=>[.slice x.aid.a x.aid.xs.length x.aid.c,.int .i64 x.cls,.int .i64 x.inst],Ap.Ok,fun hb h=>⟨h.1.mono hb,h.2⟩⟩
structure Cl.Ok (w:World) (x:Cl):Prop where
 sp:i64ok x.super.p
 sc:i64ok x.super.c
 ext:x.ext.Ok eRf 2 w
 fields:x.fields.Ok eTy 3 w
 virt:Ints w x.virt
 impls:x.impls.Ok eIm 3 w
def eCl:El Cl:=⟨fun x=>[.int .i64 x.super.p,.int .i64 x.super.c,.bool x.isI,.slice x.ext.a x.ext.xs.length x.ext.c,.slice x.fields.a x.fields.xs.length x.fields.c,.slice x.virt.a x.virt.xs.length x.virt.c,.slice x.impls.a x.impls.xs.length x.impls.c],
 Cl.Ok,fun hb h=>⟨h.sp,h.sc,h.ext.mono hb,h.fields.mono hb,h.virt.mono hb,h.impls.mono hb⟩⟩
structure Me.Ok (w:World) (x:Me):Prop where
 cls:i64ok x.cls
 params:x.params.Ok eTy 3 w
 result:x.result.Ok
 locals:i64ok x.locals
 stack:i64ok x.stack
 code:x.code.Ok eIn 4 w
 hs:x.hs.Ok eHd 4 w
def eMe:El Me:=⟨fun x=>[.bool x.static,.bool x.abs,.int .i64 x.cls,.slice x.params.a x.params.xs.length x.params.c,.int .i64 x.result.k,.int .i64 x.result.c.p,.int .i64 x.result.c.c,.int .i64 x.locals,.int .i64 x.stack,.slice x.code.a x.code.xs.length x.code.c,.slice x.hs.a x.hs.xs.length x.hs.c],
 Me.Ok,fun hb h=>⟨h.cls,h.params.mono hb,h.result,h.locals,h.stack,h.code.mono hb,h.hs.mono hb⟩⟩
structure Pk.Ok (w:World) (p:Pk):Prop where
 aid:Bytes w p.aid
 major:i64ok p.major
 minor:i64ok p.minor
 imports:p.imports.Ok eIp 3 w
 classes:p.classes.Ok eCl 7 w
 methods:p.methods.Ok eMe 11 w
 statics:p.statics.Ok eTy 3 w
 applets:p.applets.Ok eAp 3 w
theorem Pk.Ok.mono {w w':World} {p:Pk} (h:p.Ok w) (hb:Below w.heap.size w w'):p.Ok w' :=
 ⟨h.aid.mono hb,h.major,h.minor,h.imports.mono hb,h.classes.mono hb,h.methods.mono hb,h.statics.mono hb,h.applets.mono hb⟩
theorem getElem?_of_lt {α:Type} {xs:List α} {k:Nat} (h:k<xs.length) : ∃ x,xs[k]? = some x:=⟨_,List.getElem?_eq_getElem h⟩
def firstE {α:Type} (F:Nat→α→Int):Nat→List α→Int
 | _,[]=>0
 | k,x :: r=>if F k x=0 then firstE F (k+1) r else F k x
theorem firstE_none {α:Type} {F:Nat→α→Int} : ∀ {xs:List α} {n:Nat},(∀ j x,xs[j]? = some x→F (n+j) x=0)→firstE F n xs=0
 | [],_,_=>rfl
 | x :: r,n,h=>by
  have h0:=h 0 x rfl
  simp only[Nat.add_zero]at h0
  rw[firstE,if_pos h0]
  exact firstE_none fun j y hy=>by have:=h (j+1) y hy;rwa [Nat.add_comm j 1,← Nat.add_assoc]at this
theorem firstE_some {α:Type} {F:Nat→α→Int} : ∀ {xs:List α} {n k:Nat} {y:α},(∀ j x,j<k→xs[j]? = some x→F (n+j) x=0)→xs[k]? = some y→F (n+k) y≠0→firstE F n xs=F (n+k) y
 | x :: r,n,0,y,_,hy,hne=>by
  simp at hy;subst hy
  simp only[Nat.add_zero]at hne ⊢
  rw[firstE,if_neg hne]
 | x :: r,n,k+1,y,h,hy,hne=>by
  have h0:=h 0 x (by omega) rfl
  simp only[Nat.add_zero]at h0
  rw[firstE,if_pos h0]
  have e:n+(k+1)=n+1+k:=by omega
  rw[e]at hne ⊢
  refine firstE_some (fun j z hj hz=>?_) (by simpa using hy) hne
  have:=h (j+1) z (by omega) (by simpa using hz)
  rwa [Nat.add_comm j 1,← Nat.add_assoc]at this
def idxF {α:Type} (p:α→Bool):Nat→List α→Int
 | _,[]=>-1
 | k,x :: r=>if p x then (k:Int) else idxF p (k+1) r
theorem idxF_none {α:Type} {p:α→Bool} : ∀ {xs:List α} {n:Nat},(∀(j:Nat) (x:α),xs[j]? = some x→p x=false)→idxF p n xs = -1
 | [],_,_=>rfl
 | x :: r,n,h=>by
  rw[idxF,h 0 x rfl]
  exact idxF_none fun j y hy=>h (j+1) y hy
theorem idxF_some {α:Type} {p:α→Bool} : ∀ {xs:List α} {n k:Nat} {y:α},(∀(j:Nat) (x:α),j<k→xs[j]? = some x→p x=false)→xs[k]? = some y→p y=true→idxF p n xs=((n+k:Nat):Int)
 | x :: r,n,0,y,_,hy,hp=>by
  simp at hy;subst hy
  rw[idxF,hp];rfl
 | x :: r,n,k+1,y,h,hy,hp=>by
  rw[idxF,h 0 x (by omega) rfl]
  have:=idxF_some (n:=n+1) (k:=k) (y:=y) (fun j z hj hz=>h (j+1) z (by omega) (by simpa using hz)) (by simpa using hy) hp
  simp only[Bool.false_eq_true,if_false]
  rw[this];omega
theorem idxF_any {α:Type} {p:α→Bool} : ∀ {xs:List α} {n:Nat},decide ((0:Int)≤idxF p n xs)=xs.any p
 | [],_=>rfl
 | x :: r,n=>by
  rw[idxF,List.any_cons]
  cases h:p x
  ·simp only[Bool.false_eq_true,if_false,Bool.false_or];exact idxF_any
  ·simp
def eqF {α β:Type} (p:α→β→Bool):List α→List β→Bool
 | [],[]=>true
 | x :: r,y :: s=>p x y && eqF p r s
 | _,_=>false
theorem eqF_len {α β:Type} {p:α→β→Bool} : ∀ {xs:List α} {ys:List β},xs.length≠ys.length→eqF p xs ys=false
 | [],[],h=>absurd rfl h
 | [],_ :: _,_=>rfl
 | _ :: _,[],_=>rfl
 | x :: r,y :: s,h=>by rw[eqF,eqF_len (by simpa using h),Bool.and_false]
theorem eqF_true {α β:Type} {p:α→β→Bool} : ∀ {xs:List α} {ys:List β},xs.length=ys.length→(∀(j:Nat) (x:α) (y:β),xs[j]? = some x→ys[j]? = some y→p x y=true)→eqF p xs ys=true
 | [],[],_,_=>rfl
 | x :: r,y :: s,hl,h=>by
  rw[eqF,h 0 x y rfl rfl,eqF_true (by simpa using hl) fun j a b ha hb=>h (j+1) a b ha hb]
  rfl
theorem eqF_false {α β:Type} {p:α→β→Bool} : ∀ {xs:List α} {ys:List β} {k:Nat} {x:α} {y:β},xs.length=ys.length→xs[k]? = some x→ys[k]? = some y→p x y=false→eqF p xs ys=false
 | u :: r,v :: s,0,x,y,_,hx,hy,hp=>by simp at hx hy;subst hx hy;rw[eqF,hp,Bool.false_and]
 | u :: r,v :: s,k+1,x,y,hl,hx,hy,hp=>by rw[eqF,eqF_false (k:=k) (by simpa using hl) (by simpa using hx) (by simpa using hy) hp,Bool.and_false]
theorem eqF_iff {α:Type} {p:α→α→Bool} (hp : ∀ x y,p x y=true↔x=y) : ∀ {xs ys:List α},eqF p xs ys=true↔xs=ys
 | [],[]=>by simp[eqF]
 | [],_ :: _=>by simp[eqF]
 | _ :: _,[]=>by simp[eqF]
 | x :: r,y :: s=>by simp[eqF,hp,eqF_iff hp]
theorem neRf {y z:Rf} (h : ¬ y=z) : ¬ y.p=z.p∨(y.p=z.p∧¬ y.c=z.c):=by
 by_cases e:y.p=z.p
 ·exact .inr ⟨e,fun e2=>h (by cases y;cases z;simp_all)⟩
 ·exact .inl e
theorem neTy {y z:Ty} (h : ¬ y=z) : ¬ y.k=z.k∨(y.k=z.k∧¬ y.c.p=z.c.p)∨(y.k=z.k∧y.c.p=z.c.p∧¬ y.c.c=z.c.c):=by
 by_cases e:y.k=z.k
 ·by_cases e1:y.c.p=z.c.p
  ·exact .inr (.inr ⟨e,e1,fun e2=>h (by obtain⟨_,_,_⟩:=y;obtain⟨_,_,_⟩:=z;simp_all)⟩)
  ·exact .inr (.inl ⟨e,e1⟩)
 ·exact .inl e
theorem conv_bytes {P:Program} {w:World} {src dst e:TypeId} (hs:P.underlying src=some (.slice e)) (he:P.underlying e=some (.int .u8)) (hd:P.underlying dst=some .string)
  {a:Option Addr} {c:Nat} {xs:List Int} (h:Bytes w ⟨a,c,xs⟩):(convert src dst (.slice a xs.length c)).run P w = .ok (.string (strOfNums xs)) w:=by
 cases xs with
 | nil =>
  cases a with
  | none=>rw[run_convert_bytes_nil w src e hs he _ _ dst hd];rfl
  | some x=>obtain⟨b,o,s⟩:=x;cases s with
   | none=>exact run_convert_bytes_arg w src e hs he b o 0 c [] rfl (fun i hi=>absurd hi (by omega)) dst hd
   | some s =>
    rw[run_convert_bytes_string w src dst e _ _ c hs he hd]
    have:(loadCells ⟨b,o,some s⟩ 0).run P w = .ok (([]:List Int).map (Value.int .u8)).toArray w:=run_loadCells_list (P:=P) w ⟨b,o,some s⟩ [] (fun j v hj=>by simp at hj)
    rw[show(([]:List Int).length)=0 from rfl,run_bytesToString w _ 0 c [] this];rfl
 | cons x r =>
  obtain⟨_,b,off,ha,_,_⟩:=h.at_ 0 x rfl
  simp only at ha
  subst ha
  refine run_convert_bytes_arg w src e hs he b off _ c (x :: r) rfl (fun i hi=>?_) dst hd
  obtain⟨y,hy⟩:=getElem?_of_lt hi
  obtain⟨_,b',off',ha,_,hc⟩:=h.at_ i y hy
  simp only[Option.some.injEq,Addr.mk.injEq]at ha
  obtain⟨rfl,rfl,_⟩:=ha
  have:=hc 0 _ rfl
  simp only[Nat.mul_one,Nat.add_zero]at this
  rw[this,List.getD_eq_getElem?_getD,hy];rfl
theorem strOfNums_inj : ∀ {xs ys:List Int},(∀ x∈xs,0≤x∧x≤255)→(∀ x∈ys,0≤x∧x≤255)→(strOfNums xs).data.toList=(strOfNums ys).data.toList→xs=ys
 | [],[],_,_,_=>rfl
 | [],_ :: _,_,_,h=>by simp[strOfNums]at h
 | _ :: _,[],_,_,h=>by simp[strOfNums]at h
 | x :: r,y :: s,h1,h2,h=>by
  simp only[strOfNums,List.map_cons,List.cons.injEq]at h
  obtain⟨h3,h4⟩:=h
  have e:x=y:=by
   have a1:=h1 x (by simp)
   have a2:=h2 y (by simp)
   have:=congrArg UInt8.toNat h3
   simp at this
   omega
  rw[e,strOfNums_inj (fun z hz=>h1 z (by simp[hz])) (fun z hz=>h2 z (by simp[hz])) h4]
theorem Bytes.range {w:World} {s:Sl Int} (h:Bytes w s) : ∀ x∈s.xs,0≤x∧x≤255:=fun x hx=>by
 obtain⟨k,hk,rfl⟩:=List.getElem_of_mem hx
 exact(h.at_ k _ (List.getElem?_eq_getElem hk)).1
def bEq (xs ys:List Int):Bool:=decide (xs=ys)
theorem bEq_str {w:World} {s t:Sl Int} (hs:Bytes w s) (ht:Bytes w t):((strOfNums s.xs).toList == (strOfNums t.xs).toList)=bEq s.xs t.xs:=by
 have e : ∀ l:List Int,(strOfNums l).toList=(strOfNums l).data.toList:=fun l=>by simp[ByteArray.toList_eq]
 rw[e,e]
 unfold bEq
 by_cases h:s.xs=t.xs
 ·simp[h]
 ·have : ¬(strOfNums s.xs).data.toList=(strOfNums t.xs).data.toList:=fun h'=>h (strOfNums_inj hs.range ht.range h')
  simp only[h,decide_false]
  exact beq_eq_false_iff_ne.2 this
def rfEq (x y:Rf):Bool:=decide (x.p=y.p) && decide (x.c=y.c)
structure CellAt (w:World) (b o:Nat) (v:Value):Prop where
 lt:b<w.heap.size
 at_:w.cell? ⟨b,o,none⟩=some v
theorem CellAt.mono {w w':World} {b o:Nat} {v:Value} (h:CellAt w b o v) (hb:Below w.heap.size w w'):CellAt w' b o v :=
 ⟨Nat.lt_of_lt_of_le h.lt hb.size,(hb.cell (p:=⟨b,o,none⟩) h.lt).trans h.at_⟩
theorem CellAt.new (w:World) (cs:Array Value) (t:TypeId) (o:Nat) (v:Value) (h:cs[o]? = some v):CellAt (w.alloc (.cells cs t)) w.heap.size o v :=
 ⟨by simp,by rw[World.cell?_alloc_new];exact h⟩
structure PkAt (w:World) (b:Nat) (p:Pk):Prop where
 lt:b<w.heap.size
 c0:w.cell? ⟨b,0,none⟩=some (.slice p.aid.a p.aid.xs.length p.aid.c)
 c1:w.cell? ⟨b,1,none⟩=some (.int .i64 p.major)
 c2:w.cell? ⟨b,2,none⟩=some (.int .i64 p.minor)
 c3:w.cell? ⟨b,3,none⟩=some (.slice p.imports.a p.imports.xs.length p.imports.c)
 c4:w.cell? ⟨b,4,none⟩=some (.slice p.classes.a p.classes.xs.length p.classes.c)
 c5:w.cell? ⟨b,5,none⟩=some (.slice p.methods.a p.methods.xs.length p.methods.c)
 c6:w.cell? ⟨b,6,none⟩=some (.slice p.statics.a p.statics.xs.length p.statics.c)
 c7:w.cell? ⟨b,7,none⟩=some (.slice p.applets.a p.applets.xs.length p.applets.c)
theorem PkAt.mono {w w':World} {b:Nat} {p:Pk} (h:PkAt w b p) (hb:Below w.heap.size w w'):PkAt w' b p:=by
 have k : ∀ o,w'.cell? ⟨b,o,none⟩=w.cell? ⟨b,o,none⟩:=fun o=>hb.cell (p:=⟨b,o,none⟩) h.lt
 exact⟨Nat.lt_of_lt_of_le h.lt hb.size,(k _).trans h.c0,(k _).trans h.c1,(k _).trans h.c2,(k _).trans h.c3,(k _).trans h.c4,(k _).trans h.c5,(k _).trans h.c6,(k _).trans h.c7⟩
theorem PkAt.new (w:World) (p:Pk) (t:TypeId):PkAt (w.alloc (.cells #[.slice p.aid.a p.aid.xs.length p.aid.c,.int .i64 p.major,.int .i64 p.minor,.slice p.imports.a p.imports.xs.length p.imports.c,.slice p.classes.a p.classes.xs.length p.classes.c,.slice p.methods.a p.methods.xs.length p.methods.c,.slice p.statics.a p.statics.xs.length p.statics.c,.slice p.applets.a p.applets.xs.length p.applets.c] t)) w.heap.size p:=by
 constructor <;> first|(simp;done)|(rw[World.cell?_alloc_new];rfl)
abbrev Sl.take {α:Type} (s:Sl α) (k:Nat):Sl α:=⟨s.a,s.c,s.xs.take k⟩
theorem Sl.Ok.take {α:Type} {E:El α} {m:Nat} {w:World} {s:Sl α} (h:s.Ok E m w) (k:Nat):(s.take k).Ok E m w :=
 ⟨by have:=h.le;simp;omega,h.max,h.nil,fun j x hx=>h.at_ j x (by
  simp only[List.getElem?_take]at hx
  split at hx
  ·exact hx
  ·cases hx)⟩
theorem Sl.take_len {α:Type} {s:Sl α} {k:Nat} (h:k≤s.xs.length):(s.xs.take k).length=k:=by simp;omega
structure ClAt (w:World) (b:Nat) (x:Cl):Prop where
 lt:b<w.heap.size
 c0:w.cell? ⟨b,0,none⟩=some (.int .i64 x.super.p)
 c1:w.cell? ⟨b,1,none⟩=some (.int .i64 x.super.c)
 c2:w.cell? ⟨b,2,none⟩=some (.bool x.isI)
 c3:w.cell? ⟨b,3,none⟩=some (.slice x.ext.a x.ext.xs.length x.ext.c)
 c4:w.cell? ⟨b,4,none⟩=some (.slice x.fields.a x.fields.xs.length x.fields.c)
 c5:w.cell? ⟨b,5,none⟩=some (.slice x.virt.a x.virt.xs.length x.virt.c)
 c6:w.cell? ⟨b,6,none⟩=some (.slice x.impls.a x.impls.xs.length x.impls.c)
theorem ClAt.mono {w w':World} {b:Nat} {x:Cl} (h:ClAt w b x) (hb:Below w.heap.size w w'):ClAt w' b x:=by
 have k : ∀ o,w'.cell? ⟨b,o,none⟩=w.cell? ⟨b,o,none⟩:=fun o=>hb.cell (p:=⟨b,o,none⟩) h.lt
 exact⟨Nat.lt_of_lt_of_le h.lt hb.size,(k _).trans h.c0,(k _).trans h.c1,(k _).trans h.c2,(k _).trans h.c3,(k _).trans h.c4,(k _).trans h.c5,(k _).trans h.c6⟩
theorem ClAt.new (w:World) (x:Cl) (t:TypeId):ClAt (w.alloc (.cells #[.int .i64 x.super.p,.int .i64 x.super.c,.bool x.isI,.slice x.ext.a x.ext.xs.length x.ext.c,.slice x.fields.a x.fields.xs.length x.fields.c,.slice x.virt.a x.virt.xs.length x.virt.c,.slice x.impls.a x.impls.xs.length x.impls.c] t)) w.heap.size x:=by
 constructor <;> first|(simp;done)|(rw[World.cell?_alloc_new];rfl)
structure MeAt (w:World) (b:Nat) (x:Me):Prop where
 lt:b<w.heap.size
 c0:w.cell? ⟨b,0,none⟩=some (.bool x.static)
 c1:w.cell? ⟨b,1,none⟩=some (.bool x.abs)
 c2:w.cell? ⟨b,2,none⟩=some (.int .i64 x.cls)
 c3:w.cell? ⟨b,3,none⟩=some (.slice x.params.a x.params.xs.length x.params.c)
 c4:w.cell? ⟨b,4,none⟩=some (.int .i64 x.result.k)
 c5:w.cell? ⟨b,5,none⟩=some (.int .i64 x.result.c.p)
 c6:w.cell? ⟨b,6,none⟩=some (.int .i64 x.result.c.c)
 c7:w.cell? ⟨b,7,none⟩=some (.int .i64 x.locals)
 c8:w.cell? ⟨b,8,none⟩=some (.int .i64 x.stack)
 c9:w.cell? ⟨b,9,none⟩=some (.slice x.code.a x.code.xs.length x.code.c)
 c10:w.cell? ⟨b,10,none⟩=some (.slice x.hs.a x.hs.xs.length x.hs.c)
theorem MeAt.mono {w w':World} {b:Nat} {x:Me} (h:MeAt w b x) (hb:Below w.heap.size w w'):MeAt w' b x:=by
 have k : ∀ o,w'.cell? ⟨b,o,none⟩=w.cell? ⟨b,o,none⟩:=fun o=>hb.cell (p:=⟨b,o,none⟩) h.lt
 exact⟨Nat.lt_of_lt_of_le h.lt hb.size,(k _).trans h.c0,(k _).trans h.c1,(k _).trans h.c2,(k _).trans h.c3,(k _).trans h.c4,(k _).trans h.c5,(k _).trans h.c6,(k _).trans h.c7,(k _).trans h.c8,(k _).trans h.c9,(k _).trans h.c10⟩
theorem MeAt.new (w:World) (x:Me) (t:TypeId):MeAt (w.alloc (.cells #[.bool x.static,.bool x.abs,.int .i64 x.cls,.slice x.params.a x.params.xs.length x.params.c,.int .i64 x.result.k,.int .i64 x.result.c.p,.int .i64 x.result.c.c,.int .i64 x.locals,.int .i64 x.stack,.slice x.code.a x.code.xs.length x.code.c,.slice x.hs.a x.hs.xs.length x.hs.c] t)) w.heap.size x:=by
 constructor <;> first|(simp;done)|(rw[World.cell?_alloc_new];rfl)
structure ObjAt (w:World) (g:Nat):Prop where
 lt:g<w.heap.size
 c0:w.cell? ⟨g,0,none⟩=some (.int .i64 255)
 c1:w.cell? ⟨g,1,none⟩=some (.int .i64 0)
theorem ObjAt.mono {w w':World} {g:Nat} (h:ObjAt w g) (hb:Below w.heap.size w w'):ObjAt w' g :=
 ⟨Nat.lt_of_lt_of_le h.lt hb.size,(hb.cell (p:=⟨g,0,none⟩) h.lt).trans h.c0,(hb.cell (p:=⟨g,1,none⟩) h.lt).trans h.c1⟩
theorem CellAt.new_at (w:World) (cs:Array Value) (t:TypeId) (o:Nat) (v:Value) (b:Nat) (hb:b=w.heap.size) (h:cs[o]? = some v):CellAt (w.alloc (.cells cs t)) b o v:=by subst hb;exact CellAt.new w cs t o v h
theorem ClAt.new_at (w:World) (x:Cl) (t:TypeId) (b:Nat) (hb:b=w.heap.size):ClAt (w.alloc (.cells #[.int .i64 x.super.p,.int .i64 x.super.c,.bool x.isI,.slice x.ext.a x.ext.xs.length x.ext.c,.slice x.fields.a x.fields.xs.length x.fields.c,.slice x.virt.a x.virt.xs.length x.virt.c,.slice x.impls.a x.impls.xs.length x.impls.c] t)) b x:=by subst hb;exact ClAt.new w x t
theorem MeAt.new_at (w:World) (x:Me) (t:TypeId) (b:Nat) (hb:b=w.heap.size):MeAt (w.alloc (.cells #[.bool x.static,.bool x.abs,.int .i64 x.cls,.slice x.params.a x.params.xs.length x.params.c,.int .i64 x.result.k,.int .i64 x.result.c.p,.int .i64 x.result.c.c,.int .i64 x.locals,.int .i64 x.stack,.slice x.code.a x.code.xs.length x.code.c,.slice x.hs.a x.hs.xs.length x.hs.c] t)) b x:=by subst hb;exact MeAt.new w x t
theorem below_alloc (w:World) (o:Obj):Below w.heap.size w (w.alloc o):=(Below.refl _ _).alloc (Nat.le_refl _) o
abbrev pkCells (p:Pk) (za:Option Addr):Array Value:=#[.slice p.aid.a p.aid.xs.length p.aid.c,.int .i64 p.major,.int .i64 p.minor,.slice p.imports.a p.imports.xs.length p.imports.c,.slice za p.classes.xs.length p.classes.c,.slice p.methods.a p.methods.xs.length p.methods.c,.slice p.statics.a p.statics.xs.length p.statics.c,.slice p.applets.a p.applets.xs.length p.applets.c]
abbrev clCells (x:Cl) (b:Bool):Array Value:=#[.int .i64 x.super.p,.int .i64 x.super.c,.bool b,.slice x.ext.a x.ext.xs.length x.ext.c,.slice x.fields.a x.fields.xs.length x.fields.c,.slice x.virt.a x.virt.xs.length x.virt.c,.slice x.impls.a x.impls.xs.length x.impls.c]
abbrev meCells (x:Me) (b c:Bool) (z:Int):Array Value:=#[.bool b,.bool c,.int .i64 z,.slice x.params.a x.params.xs.length x.params.c,.int .i64 x.result.k,.int .i64 x.result.c.p,.int .i64 x.result.c.c,.int .i64 x.locals,.int .i64 x.stack,.slice x.code.a x.code.xs.length x.code.c,.slice x.hs.a x.hs.xs.length x.hs.c]
theorem boxPNC (w:World) (p:Pk) (n:Int) (x:Cl) {b:Bool} (hb:x.isI=b) (t1 t2 t3:TypeId) :
  PkAt (((w.alloc (.cells (pkCells p p.classes.a) t1)).alloc (.cells #[.int .i64 n] t2)).alloc (.cells (clCells x b) t3)) w.heap.size p ∧
  CellAt (((w.alloc (.cells (pkCells p p.classes.a) t1)).alloc (.cells #[.int .i64 n] t2)).alloc (.cells (clCells x b) t3)) (w.heap.size+1) 0 (.int .i64 n) ∧
  ClAt (((w.alloc (.cells (pkCells p p.classes.a) t1)).alloc (.cells #[.int .i64 n] t2)).alloc (.cells (clCells x b) t3)) (w.heap.size+2) x:=by
 subst hb
 exact⟨((PkAt.new w p t1).mono (below_alloc _ _)).mono (below_alloc _ _),(CellAt.new_at _ _ _ 0 _ _ (by simp) rfl).mono (below_alloc _ _),ClAt.new_at _ x _ _ (by simp)⟩
theorem boxPM (w:World) (p:Pk) (x:Me) {b c:Bool} (hb:x.static=b) (hc:x.abs=c) {z:Int} (hz:x.cls=z) {za:Option Addr} (hza:p.classes.a=za) (t1 t2:TypeId) :
  PkAt ((w.alloc (.cells (pkCells p za) t1)).alloc (.cells (meCells x b c z) t2)) w.heap.size p ∧
  MeAt ((w.alloc (.cells (pkCells p za) t1)).alloc (.cells (meCells x b c z) t2)) (w.heap.size+1) x:=by
 subst hb hc hz hza
 exact⟨(PkAt.new w p t1).mono (below_alloc _ _),MeAt.new_at _ x _ _ (by simp)⟩
end Go.Sc
end
