/- Part of a proof. -/
import Derived.Test.YtiboldloondokaaGreatDoorC07
import Derived.Deep.Onto
set_option maxRecDepth 100000
set_option maxHeartbeats 8000000
section
namespace Go.Proofs.YtiboldloondokaaGreatDoor
open Go.ChangeShapes Go.WideShapes Go.ChangeAt Go.RowKit Go.Sc
theorem bytes_new (w:World) (xs:List Int) (T:TypeId) (b:Nat) (hb:b=w.heap.size) (hx : ∀ x∈xs,byt x) (hl:xs.length≤1000000):Bytes (w.alloc (.cells (xs.map (.int .u8)).toArray T)) ⟨some ⟨b,0,none⟩,xs.length,xs⟩:=by
 subst hb
 refine⟨Nat.le_refl _,by simp only;omega,(fun h=>by cases h),fun k x hk=>⟨hx x (List.mem_of_getElem? hk),w.heap.size,0,rfl,by simp,fun j v hv=>?_⟩⟩
 have hj:j=0:=by
  rcases j with _|j
  ·rfl
  ·simp[eByte]at hv
 subst hj
 rw[World.cell?_alloc_new]
 simp[eByte]at hv
 subst hv
 simp only[Nat.zero_add,Nat.mul_one,Nat.add_zero,List.getElem?_toArray,List.getElem?_map]
 simp only at hk
 rw[hk]
 rfl
def GivesR (f:FuncId) (args:Array Value) (w:World) (r:Value→Value) (xs:List Int):Prop :=
 Calls Tryz.prog f args w fun e w'=>∃ v,e = .returned (r v)∧w'.ownsRow w.heap.size 5 1 v xs.length (vU xs)∧Below w.heap.size w w'
theorem own_sl {w:World} {B:Nat} {v:Value} {xs:List Int} (h:w.ownsRow B 5 1 v xs.length (vU xs)) (hb : ∀ x∈xs,byt x) : ∃ a c,v = .slice a xs.length c∧Bytes w ⟨a,c,xs⟩∧∀ b o q,a=some ⟨b,o,q⟩→B≤b∧b<w.heap.size:=by
 rw[vU_cells]at h
 exact sl_of_own h (fun _ _=>rfl) hb
theorem GivesR.go {f:FuncId} {args:Array Value} {w:World} {r:Value→Value} {xs:List Int} (h:GivesR f args w r xs) (hb : ∀ x∈xs,byt x) (n:Nat) (hn:xs.length=n) :
  Calls Tryz.prog f args w fun e w'=>∃(a:Option Addr) (c:Nat) (x:Ext w),e = .returned (r (.slice a n c))∧w'=x.val∧Hid (x.val.ownsRow w.heap.size 5 1 (.slice a n c) xs.length (vU xs))∧Hid (Bytes x.val ⟨a,c,xs⟩) :=
 h.mono fun _ w' ⟨v,he,ho,hw⟩=>by
  obtain⟨a,c,rfl,h1,_⟩:=own_sl ho hb
  subst hn
  exact⟨a,c,⟨w',hw⟩,he,rfl,ho,h1⟩
theorem own_base {w:World} {B C:Nat} {v:Value} {n:Nat} {xs:List Value} (h:w.ownsRow B 5 1 v n xs) (hb:C≤B):w.ownsRow C 5 1 v n xs:=h.mono hb
theorem own_lit (w:World) (B:Nat) (us:List Int) (hB:B≤w.heap.size) (hl:us.length≤1000000):(w.alloc (.cells (us.map (Value.int .u8)).toArray 5)).ownsRow B 5 1 (.slice (some ⟨w.heap.size,0,none⟩) us.length us.length) us.length (vU us) :=
 World.ownsRow_lit (base:=B) (size:=1) w (us.map (Value.int .u8)).toArray us.length hB (by unfold maxLen;omega) (by simp)
section
variable (w:World) {ops:Array Oper} {rest:List Oper} {o:Oper} {a:Act} {Q:Exit→Act→World→Prop}
theorem wp_apB {K:Act→World→Prop} (s x:Operand) (ho:o.op = .call { callee:=.builtin .append,args:=#[s,x],argTypes:=#[46,46] })
  (B:Nat) (v:Value) (pre:List Int) (hs:a.eval s=v) (hown:Hid (w.ownsRow B 5 1 v pre.length (vU pre))) (A:Option Addr) (C:Nat) (xs:List Int) (hb:Hid (Bytes w ⟨A,C,xs⟩)) (hx:a.eval x = .slice A xs.length C)
  (hl:pre.length+xs.length≤1099511627776) (hbase:B≤w.heap.size)
  (h : ∀(v':Value) (y:Gx 5 B w),Hid (y.val.ownsRow B 5 1 v' (pre ++ xs).length (vU (pre ++ xs)))→K (a.put o.dst v') y.val):o.wp Tryz.prog a w K Q :=
 wp_appS w s x 46 ho B 5 (.int .u8 0) 1 1 Tryz.underlying46 infU8 rfl (by decide) v pre.length (vU pre) hs hown eByte ⟨A,C,xs⟩ hb (fun y _=>⟨rfl,fun u hu=>by simp[eByte]at hu;subst hu;rfl⟩) hx (by unfold maxLen;simp only;omega) (by simp only;omega) hbase
  fun v' w' h1 h2 _=>h v' ⟨w',Gr.of_grown hown.out h2.out⟩ (hid (own_eq h1.out (by simp) (by rw[← vU_cells];simp)))
theorem wpList_apB (hgd:o.guard=none) (s x:Operand) (ho:o.op = .call { callee:=.builtin .append,args:=#[s,x],argTypes:=#[46,46] })
  (B:Nat) (v:Value) (pre:List Int) (hs:a.eval s=v) (hown:Hid (w.ownsRow B 5 1 v pre.length (vU pre))) (A:Option Addr) (C:Nat) (xs:List Int) (hb:Hid (Bytes w ⟨A,C,xs⟩)) (hx:a.eval x = .slice A xs.length C)
  (hl:pre.length+xs.length≤1099511627776) (hbase:B≤w.heap.size)
  (h : ∀(v':Value) (y:Gx 5 B w),Hid (y.val.ownsRow B 5 1 v' (pre ++ xs).length (vU (pre ++ xs)))→wpList Tryz.prog ops Q rest (a.put o.dst v') y.val):wpList Tryz.prog ops Q (o :: rest) a w :=
 wpList_plain hgd fun _ hK=>wp_apB w s x ho B v pre hs hown A C xs hb hx hl hbase fun v' y hy=>hK _ _ (h v' y hy)
theorem step_apB {K:Act→World→Prop} {E:Prop} (hgd:o.guard=none) (s x:Operand) (ho:o.op = .call { callee:=.builtin .append,args:=#[s,x],argTypes:=#[46,46] })
  (B:Nat) (v:Value) (pre:List Int) (hs:a.eval s=v) (hown:Hid (w.ownsRow B 5 1 v pre.length (vU pre))) (A:Option Addr) (C:Nat) (xs:List Int) (hb:Hid (Bytes w ⟨A,C,xs⟩)) (hx:a.eval x = .slice A xs.length C)
  (hl:pre.length+xs.length≤1099511627776) (hbase:B≤w.heap.size)
  (h : ∀(v':Value) (y:Gx 5 B w),Hid (y.val.ownsRow B 5 1 v' (pre ++ xs).length (vU (pre ++ xs)))→K (a.put o.dst v') y.val):if Region.wanted o (yielded ops a.tmps)=true then Oper.wp Tryz.prog o a w K Q else E:=by
 have hw:Region.wanted o (yielded ops a.tmps)=true:=by simp[Region.wanted,hgd]
 rw[if_pos hw]
 exact wp_apB w s x ho B v pre hs hown A C xs hb hx hl hbase h
end
def Row (w:World) (B:Nat) (v:Value) (xs:List Int):Prop:=w.ownsRow B 5 1 v xs.length (vU xs)
theorem Row.eq {w:World} {B n:Nat} {v:Value} {xs:List Int} {ys:List Value} (h:w.ownsRow B 5 1 v n ys) (hn:n=xs.length) (he:ys=vU xs):Row w B v xs:=own_eq h hn he
end Go.Proofs.YtiboldloondokaaGreatDoor
end
