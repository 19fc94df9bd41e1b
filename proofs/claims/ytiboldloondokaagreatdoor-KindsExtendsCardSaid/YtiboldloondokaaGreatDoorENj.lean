/- Part of a proof. -/
import Derived.Test.YtiboldloondokaaGreatDoorC16
set_option maxRecDepth 100000
set_option maxHeartbeats 8000000
section
namespace Go.Proofs.YtiboldloondokaaGreatDoor
open Go.Sc
theorem vis_nd {L:List Pk} {U:List Rf} (hU : ∀ a,∀ x∈extL L a,x∈U) (n:Nat) : ∀(es o:List Rf),(∀ e∈es,e∈U)→o.Nodup→(∀ x∈o,x∈U)→(es.foldl (fun o e=>aboveN L n e o) o).Nodup∧∀ x∈es.foldl (fun o e=>aboveN L n e o) o,x∈U
 | [],_,_,h1,h2=>⟨h1,h2⟩
 | e :: es,o,h,h1,h2=>by
  obtain⟨k1,k2⟩:=above_nd hU n e o h1 h2 (h e (by simp))
  exact vis_nd hU n es _ (fun x hx=>h x (by simp[hx])) k1 k2
theorem allN_impl {L:List Pk} {a x:Rf} (h:x∈implL L a):x∈allN L:=by
 unfold allN
 rw[List.mem_flatMap]
 have ha : ∃ c,clE L a=some c:=by
  unfold implL at h
  cases hc:clE L a with
  | none=>rw[hc]at h;simp at h
  | some c=>exact⟨c,rfl⟩
 obtain⟨c,hc⟩:=ha
 exact⟨a,allK_mem hc,List.mem_append.2 (.inr h)⟩
end Go.Proofs.YtiboldloondokaaGreatDoor
end
