/- Part of a proof. -/
import Derived.Test.YtkkddfebhbcdjaaGreatDoorSC10
import Derived.OrdersHeld
import Derived.OrdersIn
import Derived.RangeFuncCalls
set_option maxRecDepth 100000
set_option maxHeartbeats 8000000
section
namespace Go.Sc
open Go
def qi6 (ops:Array Oper):Bool:=ops.all fun o=>match o.op with | .defer _=>false|_=>true
theorem qlN {ops:Array Oper} (h:qi6 ops=true) {i:Nat} {o:Oper} (ho:ops[i]? = some o) : ∀ c,o.op≠.defer c:=by
 intro c e;obtain⟨hi,ho'⟩:=Array.getElem?_eq_some_iff.1 ho;have:=(Array.all_eq_true.1 h) i hi;rw[ho',e]at this;cases this
theorem Oper.round {l n:Nat} {P:Program} {o:Oper} {a:Act} {w:World} {K:Act→World→Prop} {Q:Exit→Act→World→Prop} (hd : ∀ c,o.op≠.defer c) (h:o.wp P a w K Q):o.wpIn (Fence.wide.inRound l) n P a w K Q:=by
 refine⟨fun f _=>trivial,?_⟩;rw[Oper.semAt_eq _ _ _ hd];unfold Oper.wp at h;generalize (execOp a.eval o).run P w=r at *;cases r with
 | ok x w' =>
  cases x <;> simp only[Oper.upon,Oper.uponIn]at h ⊢ <;>
   first
    | exact h
    | exact⟨fun e=>by simp[Fence.wide]at e,(callsIn_wide.2 h).inRound l⟩
    | exact⟨fun e=>by simp[Fence.wide]at e,fun c cs _=>let ⟨v,w',r,s⟩:=h c cs;⟨v,w',r,stepsIn_wide.2 s⟩⟩
 | halt x w'=>cases x <;> simp only[Oper.upon,Oper.uponIn]at h ⊢ <;> exact h
theorem qhA {l n:Nat} {P:Program} {md:Region.Mode} {ops:Array Oper} {Q:Exit→Act→World→Prop} (hd:qi6 ops=true) (hl : ∀ a w,¬ Q .outgrown a w) : ∀(fuel:Nat) (listed:Array Bool) (a:Act) (w:World),wpAny P md ops Q fuel listed a w→wpAnyIn (Fence.wide.inRound l) n P md ops Q fuel listed a w
 | 0,_,_,_,h=>h
 | fuel+1,listed,a,w,h=>⟨h.1,fun i hi=>by
  have h2:=wpOp_mono (fun a' w' h'=>qhA (l:=l) (n:=n) hd hl fuel (listed.setIfInBounds i true) a' w' h') (h.2 i hi);unfold wpOp at h2;unfold wpOpIn
  split
  ·rename_i ho;simp only[ho]at h2;exact h2
  ·rename_i o ho;simp only[ho]at h2
   split
   ·rename_i hw;simp only[hw,if_true]at h2;rcases h2 with h2|⟨_,a',w',h2⟩
    ·exact Oper.round (qlN hd ho) h2
    ·exact absurd h2 (hl a' w')
   ·rename_i hw;simp only[hw]at h2;exact⟨fun f _=>trivial,h2⟩⟩
theorem qeF {l n id:Nat} {P:Program} {ops:Array Oper} {Q:Exit→Act→World→Prop} {a:Act} {w:World} {S:World→Prop} (hm:P.follows .mixedOrders=true) (hd:qi6 ops=true) (hl : ∀ a w,¬ Q .outgrown a w) (hS:S w.drew)
  (h:S w.drew→wpAnyH P .any ops Q S ops.size (Array.replicate ops.size false) a w.drew):(Code.region id ops true).wpIn (Fence.wide.inRound l) n P Q a w :=
 wpIn_region_any hm (qhA hd hl _ _ _ _ (wpAny_of_held _ _ _ _ (h hS)))
end Go.Sc
end
