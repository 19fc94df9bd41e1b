/- Part of a proof. -/
import Derived.Test.YtkkddfebhbcdjaaGreatDoorSC08
import Derived.Deep.Onto
set_option maxRecDepth 100000
set_option maxHeartbeats 8000000
section
namespace Go.Proofs.YtkkddfebhbcdjaaGreatDoor
open Go.ChangeShapes Go.WideShapes Go.ChangeAt Go.RowKit Go.Sc
theorem qn2 (w:World) (xs:List Int) (T:TypeId) (b:Nat) (hb:b=w.heap.size) (hx : ∀ x∈xs,byt x) (hl:xs.length≤1000000):qaX (w.alloc (.cells (xs.map (.int .u8)).toArray T)) ⟨some ⟨b,0,none⟩,xs.length,xs⟩:=by
 subst hb;refine⟨Nat.le_refl _,by simp only;omega,(fun h=>by cases h),fun k x hk=>⟨hx x (List.mem_of_getElem? hk),w.heap.size,0,rfl,by simp,fun j v hv=>?_⟩⟩;have hj:j=0:=by
  rcases j with _|j
  ·rfl
  ·simp[qf4]at hv
 subst hj;rw[World.cell?_alloc_new];simp[qf4]at hv;subst hv;simp only[Nat.zero_add,Nat.mul_one,Nat.add_zero,List.getElem?_toArray,List.getElem?_map];simp only at hk;rw[hk]
 rfl
def qkq (f:FuncId) (args:Array Value) (w:World) (r:Value→Value) (xs:List Int):Prop :=
 Calls Tryz.prog f args w fun e w'=>∃ v,e = .returned (r v)∧w'.ownsRow w.heap.size 5 1 v xs.length (vU xs)∧Below w.heap.size w w'
theorem qqP {w:World} {B:Nat} {v:Value} {xs:List Int} (h:w.ownsRow B 5 1 v xs.length (vU xs)) (hb : ∀ x∈xs,byt x) : ∃ a c,v = .slice a xs.length c∧qaX w ⟨a,c,xs⟩∧∀ b o q,a=some ⟨b,o,q⟩→B≤b∧b<w.heap.size:=by
 rw[qeW]at h;exact qbb h (fun _ _=>rfl) hb
theorem qkq.go {f:FuncId} {args:Array Value} {w:World} {r:Value→Value} {xs:List Int} (h:qkq f args w r xs) (hb : ∀ x∈xs,byt x) (n:Nat) (hn:xs.length=n) :
  Calls Tryz.prog f args w fun e w'=>∃(a:Option Addr) (c:Nat) (x:Ext w),e = .returned (r (.slice a n c))∧w'=x.val∧Hid (x.val.ownsRow w.heap.size 5 1 (.slice a n c) xs.length (vU xs))∧Hid (qaX x.val ⟨a,c,xs⟩) :=
 h.mono fun _ w' ⟨v,he,ho,hw⟩=>by
  obtain⟨a,c,rfl,h1,_⟩:=qqP ho hb;subst hn;exact⟨a,c,⟨w',hw⟩,he,rfl,ho,h1⟩
section
variable (w:World) {ops:Array Oper} {rest:List Oper} {o:Oper} {a:Act} {Q:Exit→Act→World→Prop}
end
def Row (w:World) (B:Nat) (v:Value) (xs:List Int):Prop:=w.ownsRow B 5 1 v xs.length (vU xs)
theorem Row.eq {w:World} {B n:Nat} {v:Value} {xs:List Int} {ys:List Value} (h:w.ownsRow B 5 1 v n ys) (hn:n=xs.length) (he:ys=vU xs):Row w B v xs:=qcN h hn he
end Go.Proofs.YtkkddfebhbcdjaaGreatDoor
end
