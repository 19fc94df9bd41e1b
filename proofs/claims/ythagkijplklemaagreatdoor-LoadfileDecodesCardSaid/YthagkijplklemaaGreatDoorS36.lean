/- The law's light: it answers true or false. -/
import Derived.Test.YthagkijplklemaaGreatDoorS35
import Derived.Lib.MinMax
section
namespace Go.Proofs.YthagkijplklemaaGreatDoor
open Go.ChangeShapes Go.WideShapes Go.ChangeAt Go.RowKit Go.Sc
def LightOut (w : World) (e : Ending) (w' : World) : Prop := ∃ (b : Bool) (x : Ext w), e = .returned (.bool b) ∧ w' = x.val
theorem LightOut.mk {w w' : World} {b : Bool} (h : Below w.heap.size w w') : LightOut w (.returned (.bool b)) w' := ⟨b, ⟨w', h⟩, rfl, rfl⟩
end Go.Proofs.YthagkijplklemaaGreatDoor
end
