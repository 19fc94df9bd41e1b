/- Part of a proof. -/
import Derived.Test.YtkkddfebhbcdjaaGreatDoorSC02
import Derived.Test.YtkkddfebhbcdjaaGreatDoorRows
import Derived.BigGuardPart
import Derived.Maps.AppendAt
set_option maxRecDepth 100000
set_option maxHeartbeats 8000000
section
namespace Go.Proofs.YtkkddfebhbcdjaaGreatDoor
open Go.ChangeShapes Go.WideShapes Go.ChangeAt Go.RowKit Go.Sc
theorem qsP:(Tryz.prog.info? 5).map (fun i=>(i.zero,i.size,i.bytes))=some (some (.int .u8 0),1,1):=by kernel_rfl
theorem qit (B p b:Nat) (xs:List Int) (w:World) (bs:List Int) (hk:Kp 5 B p b w) (hc:Hid (∀(j:Nat) (x:Int),xs[j]? = some x→w.cell? ⟨b,j,none⟩=some (Z x)))
  (hw:Hid (Wr 5 B p w bs)) (hl:bs.length+xs.length≤1099511627776) :
  qaO 5 Tryz.prog 286 #[.pointer (some ⟨p,0,none⟩),.slice (some ⟨b,0,none⟩) xs.length xs.length] B p w bs (xs.map (· % 256)):=by
 unfold qaO;obtain⟨i0,hi,hz0,hz1,hz2⟩:=info_parts qsP;go_enter Tryz.func286,Tryz.ntmps286;go_wp2_with fail;go_loopw [8] (fun i wr=>∃ k:Nat,k≤xs.length∧i = Z k∧Fr 5 B p w wr∧Wr 5 B p wr (bs ++ (xs.take k).map (· % 256))) (fun i _=>xs.length - (intOf i).toNat)
 case atStart=>exact⟨0,Nat.zero_le _,rfl,.refl,by simpa using hw.out⟩
 case round =>
  obtain⟨k,hk',rfl,hf,hr⟩:=hrel;by_cases hlt:k<xs.length
  ·obtain⟨x,hx⟩:=getElem?_of_lt hlt;have h0:wr.cell? ⟨b,k,none⟩=some (Z x):=(World.cell?_of_block (w:=w) (hf.block b hk.lt hk.ne hk.nu)).trans (hc.out k x hx);obtain⟨sv,hsv,hown⟩:=hr.row;have hfz:=hr.fz;have hplt:=hr.lt;have hn:(bs ++ (xs.take k).map (· % 256)).length≤1099511627776:=by simp;omega
   have hk1:(0:Int)≤(k:Int):=by omega
   have hk2:(k:Int)<(xs.length:Int):=by omega
   have HR:=hid hr;have HF:=hid hf;have HX:=hid hx;clear hr hf hx;obtain⟨hr1,hr2⟩:wr.cell? ⟨p,0,none⟩=some sv∧True:=⟨hsv,trivial⟩;have hB:B≤wr.heap.size:=Nat.le_of_lt (Nat.lt_of_le_of_lt HR.out.le HR.out.lt);go_wp2_with (at_builtin;refine wpList_append_own_at _ rfl _ _ 34 rfl B 5 i0 (.int .u8 0) 1 1 Tryz.underlying34 hi hz0 hz1 hz2 rfl (by decide) _ _ _ rfl (hown.alloc _) ⟨wr.heap.size,0,none⟩ 1 1 [.int .u8 (x % 256)] rfl rfl ?c1 ?c2 ?c3 ?c4 ?c5 ?_)
   case c1 =>
    intro j u hj
    match j,hj with
    | 0,hj=>simp at hj;subst hj;simp[Addr.add]
   case c2=>intro u hu;simp at hu;subst hu;rfl
   case c3=>unfold maxLen;omega
   case c4=>omega
   case c5=>simp;omega
   intro v' w1 hown' hg _ hat;obtain⟨g,cap,cur,rfl,hvr⟩ : ∃ g cap cur,v' = .slice (some ⟨g,0,none⟩) (bs.length+k+1) cap∧w1.heap[g]? = some (.cells cur 5 (0,0)):=by
    rcases hown'.2 with⟨_,h⟩|⟨g,cap,cur,h,_,hh,_⟩
    ·omega
    ·exact⟨g,cap,cur,h,hh⟩
   have hown2:w1.ownsRow B 5 1 (.slice (some ⟨g,0,none⟩) (bs.length+k+1) cap) (bs ++ List.map (fun x=>x % 256) (List.take k xs) ++ [x % 256]).length ((bs ++ List.map (fun x=>x % 256) (List.take k xs) ++ [x % 256]).map (Value.int .u8)):=by
    have e:(bs ++ List.map (fun x=>x % 256) (List.take k xs) ++ [x % 256]).length=bs.length+k+1:=by simp;omega
    rw[e];simpa using hown'
   have R:=HR.out.step ((Below.refl _ _).alloc (Nat.le_refl _) _) hsv hown hg (by simpa using hat) hown2;obtain⟨R1,R2,R3,R4⟩:=R;have H1:=hid R1;have H2:=hid R2;clear R1 R2 hown' hown2 hg hat hvr hown hsv hr1;go_wp2_with fail;go_roundw
   case rel=>exact⟨k+1,by omega,by go_num,HF.out.trans H2.out,H1.out.eq (by rw[List.take_add_one,HX.out];simp)⟩
   case measure=>simp[intOf];omega
  ·go_wp2_with fail
   go_end0
   obtain rfl:k=xs.length:=by omega
   exact⟨rfl,hf,by simpa using hr⟩
end Go.Proofs.YtkkddfebhbcdjaaGreatDoor
end
