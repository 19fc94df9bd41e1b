/- LoadfileChecks holds: for every package the law returns true, and the package reads as before. No condition but that the listed variable starts as the program's text lays it. LoadfileEncodes holds: for every package the law returns true, and the package reads as before. No condition but that the listed variable starts as the program's text lays it. -/
import Derived.Test.YthagkijplklemaaGreatDoorM35
import Derived.Test.YthagkijplklemaaGreatDoorM54
import Derived.BigGuardPart
section
namespace Go.Proofs.YthagkijplklemaaGreatDoor
open Go.ChangeShapes Go.WideShapes Go.ChangeAt Go.RowKit Go.Sc
set_option maxRecDepth 100000
set_option maxHeartbeats 4000000 in
theorem checks_law (p : Pk) (w : World) (hp : Hid (p.Ok w)) (hg : Hid (ObjAt w 0)) : Gives Tryz.prog 3 #[p.v] w (.bool true) := by
  have hLp : Hid (∀ W : World, Below w.heap.size w W → Calls Tryz.prog 10 #[p.v] W (LightOut W)) := fun W h => light_any p W (hid (hp.out.mono h))
  obtain ⟨c, hc⟩ : ∃ c, c = checkE p := ⟨_, rfl⟩
  have hS : Hid (∀ W : World, Below w.heap.size w W → Gives Tryz.prog 12 #[p.v] W (.int .i64 c)) := fun W h => by rw [hc]; exact check_any p W (hid (hp.out.mono h)) (hid (hg.out.mono h))
  have hR : Hid (∀ W : World, Below w.heap.size w W → Gives Tryz.prog 13 #[p.v] W (.int .i64 c)) := fun W h => by rw [hc]; exact rcheck28_any p W (hid (hp.out.mono h))
  have hX : Hid (∀ W : World, Below w.heap.size w W → Gives Tryz.prog 11 #[] W (.bool true)) := fun W h => example_any W (hid (hg.out.mono h))
  clear hc
  unfold Gives
  go_enter Tryz.func3, Tryz.ntmps3
  go_wp2_with (first | (go_at_call 10; (with_reducible refine (hLp.out _ ?_).mono ?_); (exact (by with_reducible repeat' (first | exact Below.refl _ _ | exact Nat.le_refl _ | refine Below.alloc ?_ ?_ _ | refine below_ext _ ?_ ?_ | refine Below.drew ?_ | refine Below.setCell ?_ ?_ _ | refine le_alloc ?_ | refine Ext.le_size _ ?_ | refine le_drew ?_ | refine le_setCell ?_))); rintro e w' ⟨lb, xl, rfl, rfl⟩; cases lb) | (go_at_call 11; refine (example_any _ (hid (hg.out.mono (by with_reducible repeat' (first | exact Below.refl _ _ | exact Nat.le_refl _ | refine Below.alloc ?_ ?_ _ | refine below_ext _ ?_ ?_ | refine Below.drew ?_ | refine Below.setCell ?_ ?_ _ | refine le_alloc ?_ | refine Ext.le_size _ ?_ | refine le_drew ?_ | refine le_setCell ?_))))).go.mono ?_; rintro e w' ⟨rfl, xe, rfl⟩) | fail)
  all_goals first
    | (with_reducible refine wp_region_ext (by kernel_rfl) (by kernel_rfl) ?_
       (repeat (go_big_quiet_step (first | (go_at_call 12; refine (hS.out _ (by with_reducible repeat' (first | exact Below.refl _ _ | exact Nat.le_refl _ | refine Below.alloc ?_ ?_ _ | refine below_ext _ ?_ ?_ | refine Below.drew ?_ | refine Below.setCell ?_ ?_ _ | refine le_alloc ?_ | refine Ext.le_size _ ?_ | refine le_drew ?_ | refine le_setCell ?_))).at) | (go_at_call 13; refine (hR.out _ (by with_reducible repeat' (first | exact Below.refl _ _ | exact Nat.le_refl _ | refine Below.alloc ?_ ?_ _ | refine below_ext _ ?_ ?_ | refine Below.drew ?_ | refine Below.setCell ?_ ?_ _ | refine le_alloc ?_ | refine Ext.le_size _ ?_ | refine le_drew ?_ | refine le_setCell ?_))).at) | (go_at_call 11; refine (hX.out _ (by with_reducible repeat' (first | exact Below.refl _ _ | exact Nat.le_refl _ | refine Below.alloc ?_ ?_ _ | refine below_ext _ ?_ ?_ | refine Below.drew ?_ | refine Below.setCell ?_ ?_ _ | refine le_alloc ?_ | refine Ext.le_size _ ?_ | refine le_drew ?_ | refine le_setCell ?_))).at))))
       refine wpQuiet_nil ?_
       intro xw
       go_wp2_with fail
       go_ret
       exact ⟨rfl, (by with_reducible repeat' (first | exact Below.refl _ _ | exact Nat.le_refl _ | refine Below.alloc ?_ ?_ _ | refine below_ext _ ?_ ?_ | refine Below.drew ?_ | refine Below.setCell ?_ ?_ _ | refine le_alloc ?_ | refine Ext.le_size _ ?_ | refine le_drew ?_ | refine le_setCell ?_))⟩)
    | (go_ret
       exact ⟨rfl, (by with_reducible repeat' (first | exact Below.refl _ _ | exact Nat.le_refl _ | refine Below.alloc ?_ ?_ _ | refine below_ext _ ?_ ?_ | refine Below.drew ?_ | refine Below.setCell ?_ ?_ _ | refine le_alloc ?_ | refine Ext.le_size _ ?_ | refine le_drew ?_ | refine le_setCell ?_))⟩)
theorem checks_lifted (os : Os) (started : os.Started) (H : Type) (enc : TypeId × Value → H) (F : Stop.Interp) :
    ReturnsInHanded {} Tryz.checked os 3 .any ((OpenSpec.ofChange Rows.loadfileChecksSpec).preRow enc Tryz.prog Tryz.f3 Rows.loadfileChecksRow.domain false Rows.loadfileChecksRow.laid) (((OpenSpec.ofChange Rows.loadfileChecksSpec).at F).post enc Tryz.prog Tryz.f3 false true false false) := by
  have hx : ∃ places, DataW.whole enc Tryz.prog ((laidWorld os).forCall (fun _ _ => 0) ⟨#[], #[zeroPk], []⟩).memory Tryz.f3.params.toList Rows.loadfileChecksSpec.vars false #[zeroPk].toList 16 = some ([.agg [.nil, .lit (.int .i64 0), .lit (.int .i64 0), .nil, .nil, .nil, .nil, .nil]], [], places) := ⟨[], by kernel_rfl⟩
  obtain ⟨places, hx⟩ := hx
  refine returnsInHanded_of_row (C := Tryz.checked) (s := OpenSpec.ofChange Rows.loadfileChecksSpec) ownKnob' started (by kernel_rfl) Tryz.func3
    (witness_row_at (enc := enc) (C := Tryz.checked) false (laidWorld os) #[zeroPk] rfl (by kernel_rfl) (by kernel_rfl) (by kernel_rfl)
      (OpenSpec.preRow_of_cond 16 hx (by kernel_rfl) (fun k hk => by cases hk) (by kernel_rfl) (laidMet_of_run' 16 (by kernel_rfl) (by kernel_rfl)))) ?_
  intro W base args ds gs before hval hW _ _ _ hL _ _
  refine law_post (f := 3) (fn := Tryz.f3) (s := Rows.loadfileChecksSpec) rfl rfl (by kernel_rfl) (fun ds hds => ?_) hW fun ps hA => ?_
  · match ds, hds with
    | [_], _ => rfl
  · have hO := obj_at hL
    have hA' : DataW.TrodAll enc Tryz.prog W 0 (fun _ => true) true [29] args.toList _ ps := hA
    obtain ⟨v0, vs0, d0, ds0, p0, q0, hargs, rfl, rfl, h0, r0⟩ := trodAll_cons hA'
    obtain ⟨rfl, rfl, rfl⟩ := trodAll_nil r0
    obtain rfl : args = #[v0] := by cases args; simp_all
    obtain ⟨p, rfl, hp⟩ := arg_pk (hval 0 _ _ rfl rfl) h0
    exact checks_law p W hp hO
theorem checks_said : Rows.LoadfileChecksSaid :=
  OpenClaim.holds_of_cond 3 Tryz.f3 rfl rfl rfl rfl rfl rfl rfl ⟨rfl, rfl, rfl, rfl, rfl⟩ rfl rfl rfl rfl rfl (by kernel_rfl) Tryz.func3 (by kernel_rfl)
    (of_decide_eq_true (by kernel_rfl)) (by unfold Func.isWrapper; first | (rw [if_pos (by decide +kernel)]; kernel_rfl) | (rw [if_neg (by decide +kernel)]; exact ⟨rfl, rfl⟩))
    (fun os started H enc _ F => by rw [OpenClaim.pre_eq_preRow]; exact checks_lifted os started H enc F)
theorem checks_plain (f : FuncId) (fn : Func) (hf : Tryz.pinned.checked.prog.funcNamed Rows.loadfileChecksRow.func = some f) (hfn : Tryz.pinned.checked.prog.funcs[f]? = some fn) :
    true = Tryz.pinned.checked.prog.looks [] ∧ ∀ (j : Nat) t, fn.params[j]? = some t → Tryz.pinned.checked.prog.wantsStandIn t = false := by
  obtain rfl : f = 3 := Option.some.inj ((show Tryz.prog.funcNamed Rows.loadfileChecksRow.func = some 3 by kernel_rfl).symm.trans hf) |>.symm
  obtain rfl : fn = Tryz.f3 := (Option.some.inj (Tryz.func3.symm.trans hfn)).symm
  refine ⟨by kernel_rfl, fun j t ht => ?_⟩
  have hall : (Tryz.f3.params.toList.all fun t => !Tryz.pinned.checked.prog.wantsStandIn t) = true := by kernel_rfl
  have hm : t ∈ Tryz.f3.params.toList := by
    rw [Array.getElem?_eq_some_iff] at ht
    obtain ⟨hl, he⟩ := ht
    rw [← he]
    simp
  simpa using List.all_eq_true.1 hall t hm
/-- The law, with its listed variable tied to the program's text. -/
theorem checks_holds : Rows.LoadfileChecksCardSaid :=
  Claim7.holds_tied_plain_at .later [] _ _ _ _ checks_said (fun _ h => by cases h) (by kernel_rfl) (fun _ h => by cases h) loadfileChecks_row_tie rfl ⟨rfl, rfl⟩ (by kernel_rfl) rfl checks_plain (by kernel_rfl)
#print axioms checks_holds
end Go.Proofs.YthagkijplklemaaGreatDoor
end

section
namespace Go.Proofs.YthagkijplklemaaGreatDoor
open Go.ChangeShapes Go.WideShapes Go.ChangeAt Go.RowKit Go.Sc
set_option maxRecDepth 100000
theorem rencode28_bad (p : Pk) (w : World) (hp : Hid (p.Ok w)) (h : ¬ checkE p = 0) : Gives Tryz.prog 15 #[p.v] w (.tuple #[.slice none 0 0, .int .i64 (checkE p)]) := by
  obtain ⟨c, hc⟩ : ∃ c, c = checkE p := ⟨_, rfl⟩
  have hC : Hid (∀ W : World, Below w.heap.size w W → Gives Tryz.prog 13 #[p.v] W (.int .i64 c)) := fun W h => by rw [hc]; exact rcheck28_any p W (hid (hp.out.mono h))
  rw [← hc] at h ⊢
  have hz : (c != 0) = true := by simp [h]
  clear hc h
  unfold Gives
  go_enter Tryz.func15, Tryz.ntmps15
  go_wp2_with ((go_at_call 13; refine (hC.out _ (by with_reducible repeat' (first | exact Below.refl _ _ | exact Nat.le_refl _ | refine Below.alloc ?_ ?_ _ | refine below_ext _ ?_ ?_ | refine Below.drew ?_ | refine Below.setCell ?_ ?_ _ | refine le_alloc ?_ | refine Ext.le_size _ ?_ | refine le_drew ?_ | refine le_setCell ?_))).go.mono ?_; rintro e w' ⟨rfl, xw, rfl⟩))
  go_ret2
  exact ⟨rfl, (by with_reducible repeat' (first | exact Below.refl _ _ | exact Nat.le_refl _ | refine Below.alloc ?_ ?_ _ | refine below_ext _ ?_ ?_ | refine Below.drew ?_ | refine Below.setCell ?_ ?_ _ | refine le_alloc ?_ | refine Ext.le_size _ ?_ | refine le_drew ?_ | refine le_setCell ?_))⟩
theorem checkE_parts {p : Pk} (h : checkE p = 0) : partsE p = 0 := by
  unfold checkE at h
  split at h
  · cases h
  · split at h
    · cases h
    · split at h
      · cases h
      · exact h
theorem check_meW {p : Pk} (h : checkE p = 0) : ∀ m ∈ p.methods.xs, meW m := fun m hm => by
  have h1 := checkE_parts h
  rw [partsE_then] at h1
  have h2 := (thenE_eq0 (thenE_eq0 (thenE_eq0 (thenE_eq0 h1).1).1).1).2
  obtain ⟨j, hj⟩ := List.mem_iff_getElem?.1 hm
  exact meW_of (firstE_zero h2 j m hj)
theorem rencode28_good (p : Pk) (w : World) (hp : Hid (p.Ok w)) (h : checkE p = 0) : GivesB Tryz.prog 15 #[p.v] w (fun v => .tuple #[v, .int .i64 0]) (pkB p) := by
  have hC : Hid (∀ W : World, Below w.heap.size w W → Gives Tryz.prog 13 #[p.v] W (.int .i64 0)) := fun W h0 => by have := rcheck28_any p W (hid (hp.out.mono h0)); rwa [h] at this
  have hw : Hid (∀ W : World, Below w.heap.size w W → Calls Tryz.prog 35 #[p.v] W (RowOut (pkB p) W)) := fun W h0 => (rwrite_any p W (hid (hp.out.mono h0)) (hid (check_meW h)) (by have := (check_codes h).2.1; omega)).row (pkB_byts p)
  obtain ⟨l, hl⟩ : ∃ l, l = pkB p := ⟨_, rfl⟩
  rw [← hl] at hw ⊢
  clear hl h
  unfold GivesB
  go_enter Tryz.func15, Tryz.ntmps15
  go_wp2_with (first | (go_at_call 13; refine (hC.out _ (by with_reducible repeat' (first | exact Below.refl _ _ | exact Nat.le_refl _ | refine Below.alloc ?_ ?_ _ | refine below_ext _ ?_ ?_ | refine Below.drew ?_ | refine Below.setCell ?_ ?_ _ | refine le_alloc ?_ | refine Ext.le_size _ ?_ | refine le_drew ?_ | refine le_setCell ?_))).go.mono ?_; rintro e w' ⟨rfl, xw, rfl⟩) | (go_at_call 35; refine (hw.out _ (by with_reducible repeat' (first | exact Below.refl _ _ | exact Nat.le_refl _ | refine Below.alloc ?_ ?_ _ | refine below_ext _ ?_ ?_ | refine Below.drew ?_ | refine Below.setCell ?_ ?_ _ | refine le_alloc ?_ | refine Ext.le_size _ ?_ | refine le_drew ?_ | refine le_setCell ?_))).mono ?_; rintro e w' ⟨a, c, x, rfl, rfl, hf, hb⟩))
  go_ret2
  exact ⟨a, c, rfl, hb.out, (by with_reducible repeat' (first | exact Below.refl _ _ | exact Nat.le_refl _ | refine Below.alloc ?_ ?_ _ | refine below_ext _ ?_ ?_ | refine Below.drew ?_ | refine Below.setCell ?_ ?_ _ | refine le_alloc ?_ | refine Ext.le_size _ ?_ | refine le_drew ?_ | refine le_setCell ?_)), fun b o q h => Nat.le_trans (by with_reducible repeat' (first | exact Below.refl _ _ | exact Nat.le_refl _ | refine Below.alloc ?_ ?_ _ | refine below_ext _ ?_ ?_ | refine Below.drew ?_ | refine Below.setCell ?_ ?_ _ | refine le_alloc ?_ | refine Ext.le_size _ ?_ | refine le_drew ?_ | refine le_setCell ?_)) (hf.out b o q h).1⟩
set_option maxHeartbeats 4000000 in
theorem encodes_law (p : Pk) (w : World) (hp : Hid (p.Ok w)) (hg : Hid (ObjAt w 0)) : Gives Tryz.prog 4 #[p.v] w (.bool true) := by
  have hLp : Hid (∀ W : World, Below w.heap.size w W → Calls Tryz.prog 10 #[p.v] W (LightOut W)) := fun W h => light_any p W (hid (hp.out.mono h))
  have hX : Hid (∀ W : World, Below w.heap.size w W → Gives Tryz.prog 11 #[] W (.bool true)) := fun W h => example_any W (hid (hg.out.mono h))
  unfold Gives
  by_cases hz : checkE p = 0
  · obtain ⟨n, hn⟩ : ∃ n, n = (pkB p).length := ⟨_, rfl⟩
    have hS : Hid (∀ W : World, Below w.heap.size w W → Calls Tryz.prog 14 #[p.v] W fun e w' => ∃ (A : Option Addr) (C : Nat) (x : Ext W), e = .returned (.tuple #[.slice A n C, .int .i64 0]) ∧ w' = x.val ∧ Hid (Bytes x.val ⟨A, C, pkB p⟩)) := fun W h => giv (encode_good p W (hid (hp.out.mono h)) (hid (hg.out.mono h)) hz) n hn.symm
    have hR : Hid (∀ W : World, Below w.heap.size w W → Calls Tryz.prog 15 #[p.v] W fun e w' => ∃ (A : Option Addr) (C : Nat) (x : Ext W), e = .returned (.tuple #[.slice A n C, .int .i64 0]) ∧ w' = x.val ∧ Hid (Bytes x.val ⟨A, C, pkB p⟩)) := fun W h => giv (rencode28_good p W (hid (hp.out.mono h)) hz) n hn.symm
    have hQ : Hid (∀ (W : World) (A : Option Addr) (C : Nat) (A' : Option Addr) (C' : Nat), Bytes W ⟨A, C, pkB p⟩ → Bytes W ⟨A', C', pkB p⟩ → Gives Tryz.prog 16 #[.slice A n C, .slice A' n C'] W (.bool true)) := fun W A C A' C' h1 h2 => by
      have := rsame_any ⟨A, C, pkB p⟩ ⟨A', C', pkB p⟩ W h1 h2
      simp only [Sl.v, ← hn] at this
      rwa [show bEq (pkB p) (pkB p) = true from bEq_self _] at this
    clear hz hn
    generalize pkB p = H at *
    go_enter Tryz.func4, Tryz.ntmps4
    go_wp2_with (first | (go_at_call 10; (with_reducible refine (hLp.out _ ?_).mono ?_); (exact (by with_reducible repeat' (first | exact Below.refl _ _ | exact Nat.le_refl _ | refine Below.alloc ?_ ?_ _ | refine below_ext _ ?_ ?_ | refine Below.drew ?_ | refine Below.setCell ?_ ?_ _ | refine le_alloc ?_ | refine Ext.le_size _ ?_ | refine le_drew ?_ | refine le_setCell ?_))); rintro e w' ⟨lb, xl, rfl, rfl⟩; cases lb) | (go_at_call 14; refine (hS.out _ (by with_reducible repeat' (first | exact Below.refl _ _ | exact Nat.le_refl _ | refine Below.alloc ?_ ?_ _ | refine below_ext _ ?_ ?_ | refine Below.drew ?_ | refine Below.setCell ?_ ?_ _ | refine le_alloc ?_ | refine Ext.le_size _ ?_ | refine le_drew ?_ | refine le_setCell ?_))).mono ?_; rintro e w' ⟨A1, C1, x1, rfl, rfl, hb1⟩) | (go_at_call 15; refine (hR.out _ (by with_reducible repeat' (first | exact Below.refl _ _ | exact Nat.le_refl _ | refine Below.alloc ?_ ?_ _ | refine below_ext _ ?_ ?_ | refine Below.drew ?_ | refine Below.setCell ?_ ?_ _ | refine le_alloc ?_ | refine Ext.le_size _ ?_ | refine le_drew ?_ | refine le_setCell ?_))).mono ?_; rintro e w' ⟨A2, C2, x2, rfl, rfl, hb2⟩) | (go_at_call 16; refine (hQ.out _ _ _ _ _ (Sl.Ok.mono hb1.out (by with_reducible repeat' (first | exact Below.refl _ _ | exact Nat.le_refl _ | refine Below.alloc ?_ ?_ _ | refine below_ext _ ?_ ?_ | refine Below.drew ?_ | refine Below.setCell ?_ ?_ _ | refine le_alloc ?_ | refine Ext.le_size _ ?_ | refine le_drew ?_ | refine le_setCell ?_))) hb2.out).go.mono ?_; rintro e w' ⟨rfl, x3, rfl⟩) | (go_at_call 11; refine (example_any _ (hid (hg.out.mono (by with_reducible repeat' (first | exact Below.refl _ _ | exact Nat.le_refl _ | refine Below.alloc ?_ ?_ _ | refine below_ext _ ?_ ?_ | refine Below.drew ?_ | refine Below.setCell ?_ ?_ _ | refine le_alloc ?_ | refine Ext.le_size _ ?_ | refine le_drew ?_ | refine le_setCell ?_))))).go.mono ?_; rintro e w' ⟨rfl, xe, rfl⟩) | fail)
    all_goals
      go_ret
      exact ⟨rfl, (by with_reducible repeat' (first | exact Below.refl _ _ | exact Nat.le_refl _ | refine Below.alloc ?_ ?_ _ | refine below_ext _ ?_ ?_ | refine Below.drew ?_ | refine Below.setCell ?_ ?_ _ | refine le_alloc ?_ | refine Ext.le_size _ ?_ | refine le_drew ?_ | refine le_setCell ?_))⟩
  · have hS : Hid (∀ W : World, Below w.heap.size w W → Gives Tryz.prog 14 #[p.v] W (.tuple #[.slice none 0 0, .int .i64 (checkE p)])) := fun W h => encode_bad p W (hid (hp.out.mono h)) (hid (hg.out.mono h)) hz
    have hR : Hid (∀ W : World, Below w.heap.size w W → Gives Tryz.prog 15 #[p.v] W (.tuple #[.slice none 0 0, .int .i64 (checkE p)])) := fun W h => rencode28_bad p W (hid (hp.out.mono h)) hz
    have hN : ∀ W : World, Bytes W ⟨none, 0, []⟩ := fun W => ⟨by simp, by simp, fun _ => rfl, fun j x hx => by simp at hx⟩
    have hQ : Hid (∀ W : World, Gives Tryz.prog 16 #[.slice none 0 0, .slice none 0 0] W (.bool true)) := fun W => by
      have := rsame_any ⟨none, 0, []⟩ ⟨none, 0, []⟩ W (hN W) (hN W)
      rwa [show bEq ([] : List Int) [] = true from bEq_self _] at this
    clear hz hN
    generalize checkE p = c at *
    go_enter Tryz.func4, Tryz.ntmps4
    go_wp2_with (first | (go_at_call 10; (with_reducible refine (hLp.out _ ?_).mono ?_); (exact (by with_reducible repeat' (first | exact Below.refl _ _ | exact Nat.le_refl _ | refine Below.alloc ?_ ?_ _ | refine below_ext _ ?_ ?_ | refine Below.drew ?_ | refine Below.setCell ?_ ?_ _ | refine le_alloc ?_ | refine Ext.le_size _ ?_ | refine le_drew ?_ | refine le_setCell ?_))); rintro e w' ⟨lb, xl, rfl, rfl⟩; cases lb) | (go_at_call 14; refine (hS.out _ (by with_reducible repeat' (first | exact Below.refl _ _ | exact Nat.le_refl _ | refine Below.alloc ?_ ?_ _ | refine below_ext _ ?_ ?_ | refine Below.drew ?_ | refine Below.setCell ?_ ?_ _ | refine le_alloc ?_ | refine Ext.le_size _ ?_ | refine le_drew ?_ | refine le_setCell ?_))).go.mono ?_; rintro e w' ⟨rfl, xw, rfl⟩) | (go_at_call 15; refine (hR.out _ (by with_reducible repeat' (first | exact Below.refl _ _ | exact Nat.le_refl _ | refine Below.alloc ?_ ?_ _ | refine below_ext _ ?_ ?_ | refine Below.drew ?_ | refine Below.setCell ?_ ?_ _ | refine le_alloc ?_ | refine Ext.le_size _ ?_ | refine le_drew ?_ | refine le_setCell ?_))).go.mono ?_; rintro e w' ⟨rfl, xw, rfl⟩) | (go_at_call 16; refine (hQ.out _).go.mono ?_; rintro e w' ⟨rfl, xw, rfl⟩) | (go_at_call 11; refine (example_any _ (hid (hg.out.mono (by with_reducible repeat' (first | exact Below.refl _ _ | exact Nat.le_refl _ | refine Below.alloc ?_ ?_ _ | refine below_ext _ ?_ ?_ | refine Below.drew ?_ | refine Below.setCell ?_ ?_ _ | refine le_alloc ?_ | refine Ext.le_size _ ?_ | refine le_drew ?_ | refine le_setCell ?_))))).go.mono ?_; rintro e w' ⟨rfl, xe, rfl⟩) | fail)
    all_goals
      go_ret
      exact ⟨rfl, (by with_reducible repeat' (first | exact Below.refl _ _ | exact Nat.le_refl _ | refine Below.alloc ?_ ?_ _ | refine below_ext _ ?_ ?_ | refine Below.drew ?_ | refine Below.setCell ?_ ?_ _ | refine le_alloc ?_ | refine Ext.le_size _ ?_ | refine le_drew ?_ | refine le_setCell ?_))⟩
theorem encodes_lifted (os : Os) (started : os.Started) (H : Type) (enc : TypeId × Value → H) (F : Stop.Interp) :
    ReturnsInHanded {} Tryz.checked os 4 .any ((OpenSpec.ofChange Rows.loadfileEncodesSpec).preRow enc Tryz.prog Tryz.f4 Rows.loadfileEncodesRow.domain false Rows.loadfileEncodesRow.laid) (((OpenSpec.ofChange Rows.loadfileEncodesSpec).at F).post enc Tryz.prog Tryz.f4 false true false false) := by
  have hx : ∃ places, DataW.whole enc Tryz.prog ((laidWorld os).forCall (fun _ _ => 0) ⟨#[], #[zeroPk], []⟩).memory Tryz.f4.params.toList Rows.loadfileEncodesSpec.vars false #[zeroPk].toList 16 = some ([.agg [.nil, .lit (.int .i64 0), .lit (.int .i64 0), .nil, .nil, .nil, .nil, .nil]], [], places) := ⟨[], by kernel_rfl⟩
  obtain ⟨places, hx⟩ := hx
  refine returnsInHanded_of_row (C := Tryz.checked) (s := OpenSpec.ofChange Rows.loadfileEncodesSpec) ownKnob' started (by kernel_rfl) Tryz.func4
    (witness_row_at (enc := enc) (C := Tryz.checked) false (laidWorld os) #[zeroPk] rfl (by kernel_rfl) (by kernel_rfl) (by kernel_rfl)
      (OpenSpec.preRow_of_cond 16 hx (by kernel_rfl) (fun k hk => by cases hk) (by kernel_rfl) (laidMet_of_run' 16 (by kernel_rfl) (by kernel_rfl)))) ?_
  intro W base args ds gs before hval hW _ _ _ hL _ _
  refine law_post (f := 4) (fn := Tryz.f4) (s := Rows.loadfileEncodesSpec) rfl rfl (by kernel_rfl) (fun ds hds => ?_) hW fun ps hA => ?_
  · match ds, hds with
    | [_], _ => rfl
  · have hO := obj_at hL
    have hA' : DataW.TrodAll enc Tryz.prog W 0 (fun _ => true) true [29] args.toList _ ps := hA
    obtain ⟨v0, vs0, d0, ds0, p0, q0, hargs, rfl, rfl, h0, r0⟩ := trodAll_cons hA'
    obtain ⟨rfl, rfl, rfl⟩ := trodAll_nil r0
    obtain rfl : args = #[v0] := by cases args; simp_all
    obtain ⟨p, rfl, hp⟩ := arg_pk (hval 0 _ _ rfl rfl) h0
    exact encodes_law p W hp hO
theorem encodes_said : Rows.LoadfileEncodesSaid :=
  OpenClaim.holds_of_cond 4 Tryz.f4 rfl rfl rfl rfl rfl rfl rfl ⟨rfl, rfl, rfl, rfl, rfl⟩ rfl rfl rfl rfl rfl (by kernel_rfl) Tryz.func4 (by kernel_rfl)
    (of_decide_eq_true (by kernel_rfl)) (by unfold Func.isWrapper; first | (rw [if_pos (by decide +kernel)]; kernel_rfl) | (rw [if_neg (by decide +kernel)]; exact ⟨rfl, rfl⟩))
    (fun os started H enc _ F => by rw [OpenClaim.pre_eq_preRow]; exact encodes_lifted os started H enc F)
theorem encodes_plain (f : FuncId) (fn : Func) (hf : Tryz.pinned.checked.prog.funcNamed Rows.loadfileEncodesRow.func = some f) (hfn : Tryz.pinned.checked.prog.funcs[f]? = some fn) :
    true = Tryz.pinned.checked.prog.looks [] ∧ ∀ (j : Nat) t, fn.params[j]? = some t → Tryz.pinned.checked.prog.wantsStandIn t = false := by
  obtain rfl : f = 4 := Option.some.inj ((show Tryz.prog.funcNamed Rows.loadfileEncodesRow.func = some 4 by kernel_rfl).symm.trans hf) |>.symm
  obtain rfl : fn = Tryz.f4 := (Option.some.inj (Tryz.func4.symm.trans hfn)).symm
  refine ⟨by kernel_rfl, fun j t ht => ?_⟩
  have hall : (Tryz.f4.params.toList.all fun t => !Tryz.pinned.checked.prog.wantsStandIn t) = true := by kernel_rfl
  have hm : t ∈ Tryz.f4.params.toList := by
    rw [Array.getElem?_eq_some_iff] at ht
    obtain ⟨hl, he⟩ := ht
    rw [← he]
    simp
  simpa using List.all_eq_true.1 hall t hm
/-- The law, with its listed variable tied to the program's text. -/
theorem encodes_holds : Rows.LoadfileEncodesCardSaid :=
  Claim7.holds_tied_plain_at .later [] _ _ _ _ encodes_said (fun _ h => by cases h) (by kernel_rfl) (fun _ h => by cases h) loadfileEncodes_row_tie rfl ⟨rfl, rfl⟩ (by kernel_rfl) rfl encodes_plain (by kernel_rfl)
#print axioms encodes_holds
end Go.Proofs.YthagkijplklemaaGreatDoor
end
