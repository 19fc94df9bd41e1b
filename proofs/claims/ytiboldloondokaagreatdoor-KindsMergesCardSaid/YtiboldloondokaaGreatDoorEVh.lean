/- Part of a proof. -/
import Derived.Test.YtiboldloondokaaGreatDoorC16
set_option maxRecDepth 100000
set_option maxHeartbeats 8000000
section
namespace Go.Proofs.YtiboldloondokaaGreatDoor
open Go.ChangeShapes Go.WideShapes Go.ChangeAt Go.RowKit Go.Sc
theorem rright_any (s:Sl Pk) (t:Ty) (w:World) (hs:Hid (Pks w s)) (hF:Few s.xs):Gives Tryz.prog 27 #[s.v,t.v] w (.bool (rightB s.xs t)):=by
 obtain⟨tk,⟨p,q⟩⟩:=t
 obtain⟨eb,hb⟩ : ∃ b,b=existsB s.xs ⟨p,q⟩:=⟨_,rfl⟩
 have hX:Hid (∀ W:World,Below w.heap.size w W→Gives Tryz.prog 28 #[.slice s.a s.xs.length s.c,.agg #[.int .i64 p,.int .i64 q]] W (.bool eb)):=hid fun W h=>by rw[hb];exact rexists29_any s ⟨p,q⟩ W (hid (hs.out.mono h)) hF
 show Gives _ _ #[.slice s.a s.xs.length s.c,.agg #[.int .i64 tk,.int .i64 p,.int .i64 q]] _ _
 by_cases h5:tk=5
 ·have hE:rightB s.xs ⟨tk,⟨p,q⟩⟩=eb:=by unfold rightB;rw[if_pos h5,hb]
  rw[hE]
  subst h5
  clear hE hb
  unfold Gives
  go_enter Tryz.func27,Tryz.ntmps27
  go_wp2_with (first|(go_at_call 28;refine(hX.out _ ENDX).go.mono ?_;rintro e w' ⟨rfl,xw,rfl⟩)|fail)
  go_ret
  exact⟨rfl,ENDX⟩
 ·have hE:rightB s.xs ⟨tk,⟨p,q⟩⟩=(decide (0≤tk) && (decide (tk≤7) && (decide (p=0) && decide (q=0)))):=by
   unfold rightB;rw[if_neg h5];simp only[Rf.mk.injEq];congr 2;rw[Bool.eq_iff_iff];simp
  have g5:(tk == 5)=false:=by simpa using h5
  rw[hE]
  clear hE hb h5
  unfold Gives
  go_enter Tryz.func27,Tryz.ntmps27
  go_wp2_with fail
  all_goals
   go_ret
   exact⟨ret_bool (by grind),ENDX⟩
end Go.Proofs.YtiboldloondokaaGreatDoor
end
