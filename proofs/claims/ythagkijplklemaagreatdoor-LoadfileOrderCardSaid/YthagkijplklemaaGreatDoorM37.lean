/- LoadfileOrder holds: for every package the law returns true, and the package reads as before. No condition but that the listed variable starts as the program's text lays it. -/
import Derived.Test.YthagkijplklemaaGreatDoorM36
section
namespace Go.Proofs.YthagkijplklemaaGreatDoor
open Go.ChangeShapes Go.WideShapes Go.ChangeAt Go.RowKit Go.Sc
set_option maxRecDepth 100000
theorem order_any (p : Pk) (w : World) (hp : p.Ok w) (hg : ObjAt w 0) : Gives Tryz.prog 9 #[p.v] w (.bool true) := by
  by_cases hc : checkE p = 0
  · exact order_yes p w hp hg hc
  · exact order_no p w hp hg hc
theorem order_lifted (os : Os) (started : os.Started) (H : Type) (enc : TypeId × Value → H) (F : Stop.Interp) :
    ReturnsInHanded {} Tryz.checked os 9 .any ((OpenSpec.ofChange Rows.loadfileOrderSpec).preRow enc Tryz.prog Tryz.f9 Rows.loadfileOrderRow.domain false Rows.loadfileOrderRow.laid) (((OpenSpec.ofChange Rows.loadfileOrderSpec).at F).post enc Tryz.prog Tryz.f9 false true false false) := by
  have hx : ∃ places, DataW.whole enc Tryz.prog ((laidWorld os).forCall (fun _ _ => 0) ⟨#[], #[zeroPk], []⟩).memory Tryz.f9.params.toList Rows.loadfileOrderSpec.vars false #[zeroPk].toList 16 = some ([.agg [.nil, .lit (.int .i64 0), .lit (.int .i64 0), .nil, .nil, .nil, .nil, .nil]], [], places) := ⟨[], by kernel_rfl⟩
  obtain ⟨places, hx⟩ := hx
  refine returnsInHanded_of_row (C := Tryz.checked) (s := OpenSpec.ofChange Rows.loadfileOrderSpec) ownKnob' started (by kernel_rfl) Tryz.func9
    (witness_row_at (enc := enc) (C := Tryz.checked) false (laidWorld os) #[zeroPk] rfl (by kernel_rfl) (by kernel_rfl) (by kernel_rfl)
      (OpenSpec.preRow_of_cond 16 hx (by kernel_rfl) (fun k hk => by cases hk) (by kernel_rfl) (laidMet_of_run' 16 (by kernel_rfl) (by kernel_rfl)))) ?_
  intro W base args ds gs before hval hW _ _ _ hL _ _
  refine law_post (f := 9) (fn := Tryz.f9) (s := Rows.loadfileOrderSpec) rfl rfl (by kernel_rfl) (fun ds hds => ?_) hW fun ps hA => ?_
  · match ds, hds with
    | [_], _ => rfl
  · have hO := obj_at hL
    have hA' : DataW.TrodAll enc Tryz.prog W 0 (fun _ => true) true [29] args.toList _ ps := hA
    obtain ⟨v0, vs0, d0, ds0, p0, q0, hargs, rfl, rfl, h0, r0⟩ := trodAll_cons hA'
    obtain ⟨rfl, rfl, rfl⟩ := trodAll_nil r0
    obtain rfl : args = #[v0] := by cases args; simp_all
    obtain ⟨q, rfl, hq⟩ := arg_pk (hval 0 _ _ rfl rfl) h0
    exact order_any q W hq hO
theorem order_said : Rows.LoadfileOrderSaid :=
  OpenClaim.holds_of_cond 9 Tryz.f9 rfl rfl rfl rfl rfl rfl rfl ⟨rfl, rfl, rfl, rfl, rfl⟩ rfl rfl rfl rfl rfl (by kernel_rfl) Tryz.func9 (by kernel_rfl)
    (of_decide_eq_true (by kernel_rfl)) (by unfold Func.isWrapper; first | (rw [if_pos (by decide +kernel)]; kernel_rfl) | (rw [if_neg (by decide +kernel)]; exact ⟨rfl, rfl⟩))
    (fun os started H enc _ F => by rw [OpenClaim.pre_eq_preRow]; exact order_lifted os started H enc F)
theorem order_plain (f : FuncId) (fn : Func) (hf : Tryz.pinned.checked.prog.funcNamed Rows.loadfileOrderRow.func = some f) (hfn : Tryz.pinned.checked.prog.funcs[f]? = some fn) :
    true = Tryz.pinned.checked.prog.looks [] ∧ ∀ (j : Nat) t, fn.params[j]? = some t → Tryz.pinned.checked.prog.wantsStandIn t = false := by
  obtain rfl : f = 9 := Option.some.inj ((show Tryz.prog.funcNamed Rows.loadfileOrderRow.func = some 9 by kernel_rfl).symm.trans hf) |>.symm
  obtain rfl : fn = Tryz.f9 := (Option.some.inj (Tryz.func9.symm.trans hfn)).symm
  refine ⟨by kernel_rfl, fun j t ht => ?_⟩
  have hall : (Tryz.f9.params.toList.all fun t => !Tryz.pinned.checked.prog.wantsStandIn t) = true := by kernel_rfl
  have hm : t ∈ Tryz.f9.params.toList := by
    rw [Array.getElem?_eq_some_iff] at ht
    obtain ⟨hl, he⟩ := ht
    rw [← he]
    simp
  simpa using List.all_eq_true.1 hall t hm
/-- The law, with its listed variable tied to the program's text. -/
theorem order_holds : Rows.LoadfileOrderCardSaid :=
  Claim7.holds_tied_plain_at .later [] _ _ _ _ order_said (fun _ h => by cases h) (by kernel_rfl) (fun _ h => by cases h) loadfileOrder_row_tie rfl ⟨rfl, rfl⟩ (by kernel_rfl) rfl order_plain (by kernel_rfl)
#print axioms order_holds
end Go.Proofs.YthagkijplklemaaGreatDoor
end
