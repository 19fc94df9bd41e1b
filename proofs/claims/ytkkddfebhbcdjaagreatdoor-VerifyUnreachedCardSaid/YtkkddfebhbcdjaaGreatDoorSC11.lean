/- Part of a proof. -/
import Derived.Test.YtkkddfebhbcdjaaGreatDoorSC01
import Derived.Test.YtkkddfebhbcdjaaGreatDoorRows
import Derived.BigGuardPart
set_option maxRecDepth 100000
set_option maxHeartbeats 8000000
section
namespace Go.Proofs.YtkkddfebhbcdjaaGreatDoor
open Go.ChangeShapes Go.WideShapes Go.ChangeAt Go.RowKit Go.Sc
theorem qa8 (s t:Sl Int) (w:World) (hs:Hid (qaX w s)) (ht:Hid (qaX w t)):qaa Tryz.prog 127 #[s.v,t.v] w (.bool (bEq s.xs t.xs)):=by
 obtain⟨a,c,xs⟩:=s;obtain⟨a',c',ys⟩:=t;have c1:=qf8 (P:=Tryz.prog) (dst:=9) Tryz.underlying34 Tryz.underlying5 Tryz.underlying9 hs.out;have c2:=qf8 (P:=Tryz.prog) (dst:=9) Tryz.underlying34 Tryz.underlying5 Tryz.underlying9 ht.out;show qaa _ _ #[.slice a xs.length c,.slice a' ys.length c'] _ _;unfold qaa;go_enter Tryz.func127,Tryz.ntmps127;go_wp2_with fail;go_ret;exact⟨qan (qrJ hs.out ht.out),END⟩
theorem qsD (s t:Sl Ty) (w:World) (hs:Hid (s.Ok eTy 3 w)) (ht:Hid (t.Ok eTy 3 w)) :
  qaa Tryz.prog 188 #[s.v,t.v] w (.bool (eqF (fun x y=>decide (x=y)) s.xs t.xs)):=by
 obtain⟨a,c,xs⟩:=s;obtain⟨a',c',ys⟩:=t;have hle:=hs.out.le;have hmx:=hs.out.max;have hle':=ht.out.le;have hmx':=ht.out.max;simp only at hle hmx hle' hmx';show qaa _ _ #[.slice a xs.length c,.slice a' ys.length c'] _ _;unfold qaa;by_cases hl:xs.length=ys.length
 ·have hl':((xs.length:Int) != (ys.length:Int))=false:=by simp[hl]
  have HL:=hid hl;clear hl;go_enter Tryz.func188,Tryz.ntmps188;go_wp2_with fail;go_loopw [13] (fun i wr=>∃ k:Nat,k≤xs.length∧i = Z k∧(∀(j:Nat) (x y:Ty),j<k→xs[j]? = some x→ys[j]? = some y→x=y)∧∃ x:Ext w,wr=x.val) (fun i _=>xs.length - (intOf i).toNat)
  case atStart=>exact⟨0,Nat.zero_le _,rfl,fun _ _ _ h=>absurd h (by omega),⟨w,Below.refl _ _⟩,rfl⟩
  case round =>
   obtain⟨k,hk,rfl,hz,x,rfl⟩:=hrel;have HZ:=hid hz;clear hz;by_cases hlt:k<xs.length
   ·obtain⟨y,hy⟩:=getElem?_of_lt hlt;obtain⟨hok,b,off,hba,hbl,hc⟩:=hs.out.at_ k y hy;simp only at hba;subst hba;have h0:=hc 0 _ rfl;have h1:=hc 1 _ rfl;have h2:=hc 2 _ rfl;simp only[Nat.add_zero]at h0;haveI:InW b w:=⟨hbl⟩;have hlt2:k<ys.length:=by have:=HL.out;omega
    obtain⟨z,hzz⟩:=getElem?_of_lt hlt2;obtain⟨hok',b',off',hba',hbl',hc'⟩:=ht.out.at_ k z hzz;simp only at hba';subst hba';have g0:=hc' 0 _ rfl;have g1:=hc' 1 _ rfl;have g2:=hc' 2 _ rfl;simp only[Nat.add_zero]at g0;haveI:InW b' w:=⟨hbl'⟩;have HY:=hid hy;have HZZ:=hid hzz;clear hc hok hy hbl hc' hok' hzz hbl';have hk1:(0:Int)≤(k:Int):=by omega
    have hk2:(k:Int)<(xs.length:Int):=by omega
    have hk3:(k:Int)<(ys.length:Int):=by omega
    by_cases hF:y=z
    ·subst hF;go_wp2_with fail;refine qbj ?_;(repeat (go_big_quiet_step (fail)));refine wpQuiet_nil ?_;intro xw;go_wp2_with fail;go_roundw
     case rel=>exact⟨k+1,by omega,by go_num,fun j u v hj hu hv=>by
       rcases Nat.lt_succ_iff_lt_or_eq.1 hj with h|rfl
       ·exact HZ.out j u v h hu hv
       ·have h1:=HY.out.symm.trans hu;have h2:=HZZ.out.symm.trans hv;cases h1;cases h2;rfl,⟨_,END⟩,rfl⟩
     case measure=>simp[intOf];omega
    ·have HF:=hid hF;rcases qre hF with e|⟨e0,e⟩|⟨e0,e1,e⟩
     all_goals
      clear hF;go_wp2_with fail;refine qbj ?_;(repeat (go_big_quiet_step (fail)));refine wpQuiet_nil ?_;intro xw;go_wp2_with fail;go_ret;exact⟨qan (qhL HL.out HY.out HZZ.out (by simpa using HF.out)).symm,END⟩
   ·go_wp2_with fail;go_ret;exact⟨qan (qkf HL.out fun j u v hu hv=>by simpa using HZ.out j u v (by have:=(List.getElem?_eq_some_iff.1 hu).1;omega) hu hv).symm,END⟩
 ·have hl':((xs.length:Int) != (ys.length:Int))=true:=by simp;omega
  have HL:=hid hl;clear hl;go_enter Tryz.func188,Tryz.ntmps188;go_wp2_with fail;go_ret;exact⟨qan (qox HL.out).symm,END⟩
end Go.Proofs.YtkkddfebhbcdjaaGreatDoor
end
section
namespace Go.Sc


end Go.Sc
end
section
namespace Go.Proofs.YtkkddfebhbcdjaaGreatDoor
open Go.ChangeShapes Go.WideShapes Go.ChangeAt Go.RowKit Go.Sc

end Go.Proofs.YtkkddfebhbcdjaaGreatDoor
end
