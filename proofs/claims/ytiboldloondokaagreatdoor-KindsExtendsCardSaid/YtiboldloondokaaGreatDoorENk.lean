/- Part of a proof. -/
import Derived.Test.YtiboldloondokaaGreatDoorC17
import Derived.Test.YtiboldloondokaaGreatDoorENj
set_option maxRecDepth 100000
set_option maxHeartbeats 8000000
section
namespace Go.Proofs.YtiboldloondokaaGreatDoor
open Go.Sc
def upsN (L:List Pk) (es o:List Rf):List Rf:=es.foldl (fun o e=>aboveN L 300 e o) o
theorem ups_mem {L:List Pk} (F:Fits L) : ∀(es o:List Rf),(∀ y∈o,∀ x,rchL L y x=true→x∈o) →
  (∀ x,x∈upsN L es o↔x∈o∨∃ e∈es,upB L e x=true)∧∀ y∈upsN L es o,∀ x,rchL L y x=true→x∈upsN L es o
 | [],o,h=>⟨fun x=>by simp[upsN],h⟩
 | e :: es,o,h=>by
  obtain⟨h1,h2⟩:=above_mem F 300 e o (by have:=rk_lt F e;omega) fun y hy _=>h y hy
  obtain⟨k1,k2⟩:=ups_mem F es (aboveN L 300 e o) fun y hy x hx=>by
   by_cases hyo:y∈o
   ·exact(h1 x).2 (.inl (h y hyo x hx))
   ·exact h2 y hy hyo x hx
  refine⟨fun x=>?_,k2⟩
  rw[show upsN L (e :: es) o=upsN L es (aboveN L 300 e o) from rfl,k1 x,h1 x]
  simp only[List.mem_cons,exists_eq_or_imp,or_assoc]
def allE (L:List Pk) (r:Rf):List Rf:=if ifaceB L r=true then aboveN L 300 r [] ++ [obj] else upsN L ((supsL L r).flatMap (implL L)) [] ++ supsL L r
theorem all_has {L:List Pk} (F:Fits L) (a b:Rf):(allE L a).contains b=extendsB L a b:=by
 rw[Bool.eq_iff_iff,List.contains_iff_mem]
 unfold allE extendsB
 by_cases h:ifaceB L a=true
 ·rw[if_pos h,if_pos h,List.mem_append,(above_mem F 300 a [] (by have:=rk_lt F a;omega) (by simp)).1 b]
  simp
 ·rw[if_neg h,if_neg h,List.mem_append,(ups_mem F _ [] (by simp)).1 b]
  simp only[List.mem_flatMap,Bool.or_eq_true,List.any_eq_true,List.contains_iff_mem]
  constructor
  ·rintro((h|⟨e,⟨s,h1,h2⟩,h3⟩)|h)
   ·cases h
   ·exact .inl ⟨s,h1,e,h2,h3⟩
   ·exact .inr h
  ·rintro(⟨s,h1,e,h2,h3⟩|h)
   ·exact .inl (.inr ⟨e,⟨s,h1,h2⟩,h3⟩)
   ·exact .inr h
theorem ups_nd {L:List Pk} (es o:List Rf) (h : ∀ e∈es,e∈allN L) (h1:o.Nodup∧∀ u∈o,u∈obj :: allN L):(upsN L es o).Nodup∧∀ u∈upsN L es o,u∈obj :: allN L :=
 vis_nd (fun _ _ hu=>List.mem_cons_of_mem _ (allN_ext hu)) 300 es o (fun e he=>List.mem_cons_of_mem _ (h e he)) h1.1 h1.2
end Go.Proofs.YtiboldloondokaaGreatDoor
end
