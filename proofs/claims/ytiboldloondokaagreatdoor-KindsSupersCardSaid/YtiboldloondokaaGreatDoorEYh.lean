/- Part of a proof. -/
import Derived.Test.YtiboldloondokaaGreatDoorC20
set_option maxRecDepth 100000
set_option maxHeartbeats 8000000
section
namespace Go.Sc
open Go.RowKit

end Go.Sc
end
section
namespace Go.Proofs.YtiboldloondokaaGreatDoor
open Go.ChangeShapes Go.WideShapes Go.ChangeAt Go.RowKit Go.Sc
attribute [local go_sem] Oper.semAt_some
section
variable {F:Fence} {n:Nat} (w:World) {ops:Array Oper} {rest:List Oper} {o:Oper} {a:Act} {Q:Exit→Act→World→Prop}
end
theorem psupersL_no (s:Sl Pk) (r:Rf) (w:World) (hs:Hid (Pks w s)) (hg:Hid (Glob w)) (hF:Few s.xs) (hL:Good s.xs) (hr:rfOk r) (he:existsB s.xs r=false):Gives Tryz.prog 18 #[s.v,r.v] w (.slice none 0 0):=by
 have hX:Hid (∀ W:World,Below w.heap.size w W→Gives Tryz.prog 44 #[.agg #[.slice s.a s.xs.length s.c],.agg #[.int .i64 r.p,.int .i64 r.c]] W (.bool false)):=hid fun W h=>by rw[← he];exact pexists_any s r W (hid (hs.out.mono h)) (hid (hg.out.mono h)) hF hL.toFits hr
 show Gives _ _ #[.slice s.a s.xs.length s.c,.agg #[.int .i64 r.p,.int .i64 r.c]] _ _
 clear hF hL he hr
 unfold Gives
 go_enter Tryz.func18,Tryz.ntmps18
 go_wp2_with (first|(go_at_call 44;refine(hX.out _ ENDX).go.mono ?_;rintro e w' ⟨rfl,xw,rfl⟩)|fail)
 go_ret
 exact⟨rfl,ENDX⟩
end Go.Proofs.YtiboldloondokaaGreatDoor
end
