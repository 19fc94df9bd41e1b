/- Part of a proof. -/
import Derived.Test.YtiboldloondokaaGreatDoorC36
set_option maxRecDepth 100000
set_option maxHeartbeats 8000000
section
namespace Go.Proofs.YtiboldloondokaaGreatDoor
open Go.ChangeShapes Go.WideShapes Go.ChangeAt Go.RowKit Go.Sc
section
variable {H:Type} {enc:TypeId × Value→H} {W:World} {base:Nat} {v:Value} {d:DataW H} {p:List MemPlace}
theorem arg_rf (hv:Value.okWide Tryz.prog W .any base 28 v) (h:DataW.Trod enc Tryz.prog W 0 (fun _=>true) true 28 v d p) : ∃ r:Rf,v=r.v∧nmOk r:=by
 obtain⟨cs,rfl,hsz⟩:=okWide_struct Tryz.underlying28 hv
 obtain⟨fuel,hf⟩:=h
 obtain⟨q,hq,hok⟩:=open_rf hf
 obtain⟨l⟩:=cs
 simp only[Value.cells]at hq
 subst hq
 exact⟨q,rfl,hok⟩
theorem arg_ty (hv:Value.okWide Tryz.prog W .any base 38 v) (h:DataW.Trod enc Tryz.prog W 0 (fun _=>true) true 38 v d p) : ∃ r:Ty,v=r.v∧nmOk r.c:=by
 obtain⟨cs,rfl,hsz⟩:=okWide_struct Tryz.underlying38 hv
 obtain⟨fuel,hf⟩:=h
 obtain⟨q,hq,hok⟩:=open_ty hf
 obtain⟨l⟩:=cs
 simp only[Value.cells]at hq
 subst hq
 exact⟨q,rfl,hok.2⟩
theorem arg_num (hv:Value.okWide Tryz.prog W .any base 3 v) (h:DataW.Trod enc Tryz.prog W 0 (fun _=>true) true 3 v d p) : ∃ n:Int,v = .int .i64 n∧i64ok n:=by
 obtain⟨n,rfl⟩:=okWide_int Tryz.underlying3 hv
 obtain⟨fuel,hf⟩:=h
 obtain⟨q,hq,hok⟩:=open_int' hf
 simp only[Value.cells,List.cons.injEq,and_true]at hq
 exact⟨q,hq,hok⟩
end
end Go.Proofs.YtiboldloondokaaGreatDoor
end
