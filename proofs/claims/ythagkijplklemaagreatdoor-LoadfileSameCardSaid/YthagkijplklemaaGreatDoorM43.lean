/- LoadfileSame holds: for all two packages the law returns true, and the packages read as before. No condition but that the listed variable starts as the program's text lays it. -/
import Derived.Test.YthagkijplklemaaGreatDoorM35
import Derived.Test.YthagkijplklemaaGreatDoorM41
import Derived.BigGuardPart
section
namespace Go.Proofs.YthagkijplklemaaGreatDoor
open Go.ChangeShapes Go.WideShapes Go.ChangeAt Go.RowKit Go.Sc
set_option maxRecDepth 100000
set_option maxHeartbeats 4000000 in
theorem same_law (p q : Pk) (w : World) (hp : Hid (p.Ok w)) (hq : Hid (q.Ok w)) (hg : Hid (ObjAt w 0)) : Gives Tryz.prog 7 #[p.v, q.v] w (.bool true) := by
  have hLp : Hid (∀ W : World, Below w.heap.size w W → Calls Tryz.prog 10 #[p.v] W (LightOut W)) := fun W h => light_any p W (hid (hp.out.mono h))
  have hLq : Hid (∀ W : World, Below w.heap.size w W → Calls Tryz.prog 10 #[q.v] W (LightOut W)) := fun W h => light_any q W (hid (hq.out.mono h))
  obtain ⟨b, hb⟩ : ∃ b, b = pkEq p q := ⟨_, rfl⟩
  have hS : Hid (∀ W : World, Below w.heap.size w W → Gives Tryz.prog 20 #[p.v, q.v] W (.bool b)) := fun W h => by rw [hb]; exact same_any p q W (hid (hp.out.mono h)) (hid (hq.out.mono h))
  have hR : Hid (∀ W : World, Below w.heap.size w W → Gives Tryz.prog 19 #[p.v, q.v] W (.bool b)) := fun W h => by rw [hb]; exact rpkSame_any p q W (hid (hp.out.mono h)) (hid (hq.out.mono h))
  have hT : Hid (∀ W : World, Below w.heap.size w W → Gives Tryz.prog 20 #[p.v, p.v] W (.bool true)) := fun W h => by rw [← pkEq_self p]; exact same_any p p W (hid (hp.out.mono h)) (hid (hp.out.mono h))
  have hX : Hid (∀ W : World, Below w.heap.size w W → Gives Tryz.prog 11 #[] W (.bool true)) := fun W h => example_any W (hid (hg.out.mono h))
  clear hb
  cases b
  all_goals
    unfold Gives
    go_enter Tryz.func7, Tryz.ntmps7
    go_wp2_with (first | (go_at_call 10; (with_reducible refine (hLp.out _ ?_).mono ?_); (exact (by repeat' (first | (with_reducible exact Below.refl _ _) | (with_reducible exact Nat.le_refl _) | (with_reducible refine Below.alloc ?_ ?_ _) | (with_reducible refine below_ext _ ?_ ?_) | (with_reducible refine Below.drew ?_) | (with_reducible refine Below.setCell ?_ ?_ _) | (with_reducible refine le_alloc ?_) | (with_reducible refine Ext.le_size _ ?_) | (with_reducible refine le_drew ?_) | (with_reducible refine le_setCell ?_)))); rintro e w' ⟨lb, xl, rfl, rfl⟩; cases lb) | (go_at_call 10; (with_reducible refine (hLq.out _ ?_).mono ?_); (exact (by repeat' (first | (with_reducible exact Below.refl _ _) | (with_reducible exact Nat.le_refl _) | (with_reducible refine Below.alloc ?_ ?_ _) | (with_reducible refine below_ext _ ?_ ?_) | (with_reducible refine Below.drew ?_) | (with_reducible refine Below.setCell ?_ ?_ _) | (with_reducible refine le_alloc ?_) | (with_reducible refine Ext.le_size _ ?_) | (with_reducible refine le_drew ?_) | (with_reducible refine le_setCell ?_)))); rintro e w' ⟨lb, xl, rfl, rfl⟩; cases lb) | (go_at_call 11; refine (example_any _ (hid (hg.out.mono (by repeat' (first | (with_reducible exact Below.refl _ _) | (with_reducible exact Nat.le_refl _) | (with_reducible refine Below.alloc ?_ ?_ _) | (with_reducible refine below_ext _ ?_ ?_) | (with_reducible refine Below.drew ?_) | (with_reducible refine Below.setCell ?_ ?_ _) | (with_reducible refine le_alloc ?_) | (with_reducible refine Ext.le_size _ ?_) | (with_reducible refine le_drew ?_) | (with_reducible refine le_setCell ?_)))))).go.mono ?_; rintro e w' ⟨rfl, xe, rfl⟩) | fail)
    all_goals first
      | (with_reducible refine wp_region_ext (by kernel_rfl) (by kernel_rfl) ?_
         (repeat (go_big_quiet_step (first | (go_at_call 20; first | ((with_reducible refine (hS.out _ ?_).at); exact (by repeat' (first | (with_reducible exact Below.refl _ _) | (with_reducible exact Nat.le_refl _) | (with_reducible refine Below.alloc ?_ ?_ _) | (with_reducible refine below_ext _ ?_ ?_) | (with_reducible refine Below.drew ?_) | (with_reducible refine Below.setCell ?_ ?_ _) | (with_reducible refine le_alloc ?_) | (with_reducible refine Ext.le_size _ ?_) | (with_reducible refine le_drew ?_) | (with_reducible refine le_setCell ?_)))) | ((with_reducible refine (hT.out _ ?_).at); exact (by repeat' (first | (with_reducible exact Below.refl _ _) | (with_reducible exact Nat.le_refl _) | (with_reducible refine Below.alloc ?_ ?_ _) | (with_reducible refine below_ext _ ?_ ?_) | (with_reducible refine Below.drew ?_) | (with_reducible refine Below.setCell ?_ ?_ _) | (with_reducible refine le_alloc ?_) | (with_reducible refine Ext.le_size _ ?_) | (with_reducible refine le_drew ?_) | (with_reducible refine le_setCell ?_))))) | (go_at_call 19; refine (hR.out _ (by repeat' (first | (with_reducible exact Below.refl _ _) | (with_reducible exact Nat.le_refl _) | (with_reducible refine Below.alloc ?_ ?_ _) | (with_reducible refine below_ext _ ?_ ?_) | (with_reducible refine Below.drew ?_) | (with_reducible refine Below.setCell ?_ ?_ _) | (with_reducible refine le_alloc ?_) | (with_reducible refine Ext.le_size _ ?_) | (with_reducible refine le_drew ?_) | (with_reducible refine le_setCell ?_)))).at) | (go_at_call 11; refine (hX.out _ (by repeat' (first | (with_reducible exact Below.refl _ _) | (with_reducible exact Nat.le_refl _) | (with_reducible refine Below.alloc ?_ ?_ _) | (with_reducible refine below_ext _ ?_ ?_) | (with_reducible refine Below.drew ?_) | (with_reducible refine Below.setCell ?_ ?_ _) | (with_reducible refine le_alloc ?_) | (with_reducible refine Ext.le_size _ ?_) | (with_reducible refine le_drew ?_) | (with_reducible refine le_setCell ?_)))).at))))
         refine wpQuiet_nil ?_
         intro xw
         go_wp2_with fail
         go_ret
         exact ⟨rfl, (by repeat' (first | (with_reducible exact Below.refl _ _) | (with_reducible exact Nat.le_refl _) | (with_reducible refine Below.alloc ?_ ?_ _) | (with_reducible refine below_ext _ ?_ ?_) | (with_reducible refine Below.drew ?_) | (with_reducible refine Below.setCell ?_ ?_ _) | (with_reducible refine le_alloc ?_) | (with_reducible refine Ext.le_size _ ?_) | (with_reducible refine le_drew ?_) | (with_reducible refine le_setCell ?_)))⟩)
      | (go_ret
         exact ⟨rfl, (by repeat' (first | (with_reducible exact Below.refl _ _) | (with_reducible exact Nat.le_refl _) | (with_reducible refine Below.alloc ?_ ?_ _) | (with_reducible refine below_ext _ ?_ ?_) | (with_reducible refine Below.drew ?_) | (with_reducible refine Below.setCell ?_ ?_ _) | (with_reducible refine le_alloc ?_) | (with_reducible refine Ext.le_size _ ?_) | (with_reducible refine le_drew ?_) | (with_reducible refine le_setCell ?_)))⟩)
theorem same_lifted (os : Os) (started : os.Started) (H : Type) (enc : TypeId × Value → H) (F : Stop.Interp) :
    ReturnsInHanded {} Tryz.checked os 7 .any ((OpenSpec.ofChange Rows.loadfileSameSpec).preRow enc Tryz.prog Tryz.f7 Rows.loadfileSameRow.domain false Rows.loadfileSameRow.laid) (((OpenSpec.ofChange Rows.loadfileSameSpec).at F).post enc Tryz.prog Tryz.f7 false true false false) := by
  have hx : ∃ places, DataW.whole enc Tryz.prog ((laidWorld os).forCall (fun _ _ => 0) ⟨#[], #[zeroPk, zeroPk], []⟩).memory Tryz.f7.params.toList Rows.loadfileSameSpec.vars false #[zeroPk, zeroPk].toList 16 = some ([.agg [.nil, .lit (.int .i64 0), .lit (.int .i64 0), .nil, .nil, .nil, .nil, .nil], .agg [.nil, .lit (.int .i64 0), .lit (.int .i64 0), .nil, .nil, .nil, .nil, .nil]], [], places) := ⟨[], by kernel_rfl⟩
  obtain ⟨places, hx⟩ := hx
  refine returnsInHanded_of_row (C := Tryz.checked) (s := OpenSpec.ofChange Rows.loadfileSameSpec) ownKnob' started (by kernel_rfl) Tryz.func7
    (witness_row_at (enc := enc) (C := Tryz.checked) false (laidWorld os) #[zeroPk, zeroPk] rfl (by kernel_rfl) (by kernel_rfl) (by kernel_rfl)
      (OpenSpec.preRow_of_cond 16 hx (by kernel_rfl) (fun k hk => by cases hk) (by kernel_rfl) (laidMet_of_run' 16 (by kernel_rfl) (by kernel_rfl)))) ?_
  intro W base args ds gs before hval hW _ _ _ hL _ _
  refine law_post (f := 7) (fn := Tryz.f7) (s := Rows.loadfileSameSpec) rfl rfl (by kernel_rfl) (fun ds hds => ?_) hW fun ps hA => ?_
  · match ds, hds with
    | [_, _], _ => rfl
  · have hO := obj_at hL
    have hA' : DataW.TrodAll enc Tryz.prog W 0 (fun _ => true) true [29, 29] args.toList _ ps := hA
    obtain ⟨v0, vs0, d0, ds0, p0, q0, hargs, rfl, rfl, h0, r0⟩ := trodAll_cons hA'
    obtain ⟨v1, vs1, d1, ds1, p1, q1, rfl, rfl, rfl, h1, r1⟩ := trodAll_cons r0
    obtain ⟨rfl, rfl, rfl⟩ := trodAll_nil r1
    obtain rfl : args = #[v0, v1] := by cases args; simp_all
    obtain ⟨p, rfl, hp⟩ := arg_pk (hval 0 _ _ rfl rfl) h0
    obtain ⟨q, rfl, hq⟩ := arg_pk (hval 1 _ _ rfl rfl) h1
    exact same_law p q W hp hq hO
theorem same_said : Rows.LoadfileSameSaid :=
  OpenClaim.holds_of_cond 7 Tryz.f7 rfl rfl rfl rfl rfl rfl rfl ⟨rfl, rfl, rfl, rfl, rfl⟩ rfl rfl rfl rfl rfl (by kernel_rfl) Tryz.func7 (by kernel_rfl)
    (of_decide_eq_true (by kernel_rfl)) (by unfold Func.isWrapper; first | (rw [if_pos (by decide +kernel)]; kernel_rfl) | (rw [if_neg (by decide +kernel)]; exact ⟨rfl, rfl⟩))
    (fun os started H enc _ F => by rw [OpenClaim.pre_eq_preRow]; exact same_lifted os started H enc F)
theorem same_plain (f : FuncId) (fn : Func) (hf : Tryz.pinned.checked.prog.funcNamed Rows.loadfileSameRow.func = some f) (hfn : Tryz.pinned.checked.prog.funcs[f]? = some fn) :
    true = Tryz.pinned.checked.prog.looks [] ∧ ∀ (j : Nat) t, fn.params[j]? = some t → Tryz.pinned.checked.prog.wantsStandIn t = false := by
  obtain rfl : f = 7 := Option.some.inj ((show Tryz.prog.funcNamed Rows.loadfileSameRow.func = some 7 by kernel_rfl).symm.trans hf) |>.symm
  obtain rfl : fn = Tryz.f7 := (Option.some.inj (Tryz.func7.symm.trans hfn)).symm
  refine ⟨by kernel_rfl, fun j t ht => ?_⟩
  have hall : (Tryz.f7.params.toList.all fun t => !Tryz.pinned.checked.prog.wantsStandIn t) = true := by kernel_rfl
  have hm : t ∈ Tryz.f7.params.toList := by
    rw [Array.getElem?_eq_some_iff] at ht
    obtain ⟨hl, he⟩ := ht
    rw [← he]
    simp
  simpa using List.all_eq_true.1 hall t hm
/-- The law, with its listed variable tied to the program's text. -/
theorem same_holds : Rows.LoadfileSameCardSaid :=
  Claim7.holds_tied_plain_at .later [] _ _ _ _ same_said (fun _ h => by cases h) (by kernel_rfl) (fun _ h => by cases h) loadfileSame_row_tie rfl ⟨rfl, rfl⟩ (by kernel_rfl) rfl same_plain (by kernel_rfl)
#print axioms same_holds
end Go.Proofs.YthagkijplklemaaGreatDoor
end
