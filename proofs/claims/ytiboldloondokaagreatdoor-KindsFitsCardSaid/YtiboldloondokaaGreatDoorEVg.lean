/- Part of a proof. -/
import Derived.Test.YtiboldloondokaaGreatDoorC16
set_option maxRecDepth 100000
set_option maxHeartbeats 8000000
section
namespace Go.Proofs.YtiboldloondokaaGreatDoor
open Go.ChangeShapes Go.WideShapes Go.ChangeAt Go.RowKit Go.Sc
theorem rreference_any (t:Ty) (w:World):Gives Tryz.prog 66 #[t.v] w (.bool (refB t)):=by
 unfold Gives
 go_enter Tryz.func66,Tryz.ntmps66
 go_wp2_with fail
 all_goals
  go_ret
  exact⟨ret_bool (by unfold refB;grind),ENDX⟩
end Go.Proofs.YtiboldloondokaaGreatDoor
end
