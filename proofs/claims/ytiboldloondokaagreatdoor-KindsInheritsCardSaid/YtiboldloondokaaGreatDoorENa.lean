/- Part of a proof. -/
import Derived.Test.YtiboldloondokaaGreatDoorC12
set_option maxRecDepth 100000
set_option maxHeartbeats 8000000
section
namespace Go.Proofs.YtiboldloondokaaGreatDoor
open Go.Sc
def statL (L:List Pk) (k m:Int):Option Sg:=((nth L k).bind fun p=>nth p.methods.xs m).bind fun me=>if me.static=true then some (sgL L k me) else none
end Go.Proofs.YtiboldloondokaaGreatDoor
end
