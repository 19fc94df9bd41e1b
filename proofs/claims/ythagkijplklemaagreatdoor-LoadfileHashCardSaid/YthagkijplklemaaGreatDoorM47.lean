/- LoadfileHash holds: for all bytes the law returns true, and they read as before. No condition but that the listed variable starts as the program's text lays it. -/
import Derived.Test.YthagkijplklemaaGreatDoorM44
import Derived.Test.YthagkijplklemaaGreatDoorM46
import Derived.Test.YthagkijplklemaaGreatDoorM39
import Derived.BigGuardPart
section
namespace Go.Proofs.YthagkijplklemaaGreatDoor
open Go.ChangeShapes Go.WideShapes Go.ChangeAt Go.RowKit Go.Sc
set_option maxRecDepth 100000
theorem rhash28 (a : Option Addr) (c : Nat) (bs : List Int) (w : World) (hs : Hid (Bytes w ⟨a, c, bs⟩)) (hl : bs.length ≤ 900000) (n : Nat) (hn : (hashL bs).length = n) :
    Calls Tryz.prog 22 #[.slice a bs.length c] w fun e w' => ∃ (A : Option Addr) (C : Nat) (x : Ext w), e = .returned (.slice A n C) ∧ w' = x.val ∧ Hid (Bytes x.val ⟨A, C, hashL bs⟩) := by
  have hC := hid (giv (rhash_any ⟨a, c, bs⟩ w hs hl) n hn)
  generalize hashL bs = H at *
  go_enter Tryz.func22, Tryz.ntmps22
  go_wp2_with (go_at_call 55; refine hC.out.mono ?_; rintro e w' ⟨A, C, x, rfl, rfl, hb⟩)
  go_ret
  exact ⟨A, C, x, rfl, rfl, hb⟩
set_option maxHeartbeats 4000000 in
theorem hash_law (s : Sl Int) (w : World) (hs : Hid (Bytes w s)) (hg : Hid (ObjAt w 0)) : Gives Tryz.prog 8 #[s.v] w (.bool true) := by
  obtain ⟨a, c, bs⟩ := s
  show Gives _ _ #[.slice a bs.length c] _ _
  unfold Gives
  by_cases hl : (3000 : Int) < (bs.length : Int)
  · go_enter Tryz.func8, Tryz.ntmps8
    go_wp2_with (first | (go_at_call 11; refine (example_any _ (hid (hg.out.mono (by repeat' (first | (with_reducible exact Below.refl _ _) | (with_reducible exact Nat.le_refl _) | (with_reducible refine Below.alloc ?_ ?_ _) | (with_reducible refine below_ext _ ?_ ?_) | (with_reducible refine Below.drew ?_) | (with_reducible refine Below.setCell ?_ ?_ _) | (with_reducible refine le_alloc ?_) | (with_reducible refine Ext.le_size _ ?_) | (with_reducible refine le_drew ?_) | (with_reducible refine le_setCell ?_)))))).go.mono ?_; rintro e w' ⟨rfl, xe, rfl⟩) | fail)
    go_ret
    exact ⟨rfl, (by repeat' (first | (with_reducible exact Below.refl _ _) | (with_reducible exact Nat.le_refl _) | (with_reducible refine Below.alloc ?_ ?_ _) | (with_reducible refine below_ext _ ?_ ?_) | (with_reducible refine Below.drew ?_) | (with_reducible refine Below.setCell ?_ ?_ _) | (with_reducible refine le_alloc ?_) | (with_reducible refine Ext.le_size _ ?_) | (with_reducible refine le_drew ?_) | (with_reducible refine le_setCell ?_)))⟩
  · have hln := hashL_len bs
    have hP : Hid (∀ W : World, Below w.heap.size w W → Calls Tryz.prog 21 #[.slice a bs.length c] W fun e w' => ∃ (A : Option Addr) (C : Nat) (x : Ext W), e = .returned (.slice A 16 C) ∧ w' = x.val ∧ Hid (Bytes x.val ⟨A, C, hashL bs⟩)) := fun W h => giv (lhash_any ⟨a, c, bs⟩ W (hs.out.mono h) (by simp only; omega)) 16 hln
    have hR : Hid (∀ W : World, Below w.heap.size w W → Calls Tryz.prog 22 #[.slice a bs.length c] W fun e w' => ∃ (A : Option Addr) (C : Nat) (x : Ext W), e = .returned (.slice A 16 C) ∧ w' = x.val ∧ Hid (Bytes x.val ⟨A, C, hashL bs⟩)) := fun W h => rhash28 a c bs W (hid (hs.out.mono h)) (by omega) 16 hln
    have hS : Hid (∀ (W : World) (A : Option Addr) (C : Nat) (A' : Option Addr) (C' : Nat), Bytes W ⟨A, C, hashL bs⟩ → Bytes W ⟨A', C', hashL bs⟩ → Gives Tryz.prog 16 #[.slice A 16 C, .slice A' 16 C'] W (.bool true)) := fun W A C A' C' h1 h2 => by
      have := rsame_any ⟨A, C, hashL bs⟩ ⟨A', C', hashL bs⟩ W h1 h2
      simp only [Sl.v, hln] at this
      rwa [show bEq (hashL bs) (hashL bs) = true from bEq_self _] at this
    generalize hashL bs = H at *
    go_enter Tryz.func8, Tryz.ntmps8
    go_wp2_with (first | (go_at_call 21; refine (hP.out _ (by repeat' (first | (with_reducible exact Below.refl _ _) | (with_reducible exact Nat.le_refl _) | (with_reducible refine Below.alloc ?_ ?_ _) | (with_reducible refine below_ext _ ?_ ?_) | (with_reducible refine Below.drew ?_) | (with_reducible refine Below.setCell ?_ ?_ _) | (with_reducible refine le_alloc ?_) | (with_reducible refine Ext.le_size _ ?_) | (with_reducible refine le_drew ?_) | (with_reducible refine le_setCell ?_)))).mono ?_; rintro e w' ⟨A1, C1, x1, rfl, rfl, hb1⟩) | (go_at_call 22; refine (hR.out _ (by repeat' (first | (with_reducible exact Below.refl _ _) | (with_reducible exact Nat.le_refl _) | (with_reducible refine Below.alloc ?_ ?_ _) | (with_reducible refine below_ext _ ?_ ?_) | (with_reducible refine Below.drew ?_) | (with_reducible refine Below.setCell ?_ ?_ _) | (with_reducible refine le_alloc ?_) | (with_reducible refine Ext.le_size _ ?_) | (with_reducible refine le_drew ?_) | (with_reducible refine le_setCell ?_)))).mono ?_; rintro e w' ⟨A2, C2, x2, rfl, rfl, hb2⟩) | (go_at_call 16; refine (hS.out _ _ _ _ _ (Sl.Ok.mono hb1.out (by repeat' (first | (with_reducible exact Below.refl _ _) | (with_reducible exact Nat.le_refl _) | (with_reducible refine Below.alloc ?_ ?_ _) | (with_reducible refine below_ext _ ?_ ?_) | (with_reducible refine Below.drew ?_) | (with_reducible refine Below.setCell ?_ ?_ _) | (with_reducible refine le_alloc ?_) | (with_reducible refine Ext.le_size _ ?_) | (with_reducible refine le_drew ?_) | (with_reducible refine le_setCell ?_)))) hb2.out).go.mono ?_; rintro e w' ⟨rfl, x3, rfl⟩) | (go_at_call 11; refine (example_any _ (hid (hg.out.mono (by repeat' (first | (with_reducible exact Below.refl _ _) | (with_reducible exact Nat.le_refl _) | (with_reducible refine Below.alloc ?_ ?_ _) | (with_reducible refine below_ext _ ?_ ?_) | (with_reducible refine Below.drew ?_) | (with_reducible refine Below.setCell ?_ ?_ _) | (with_reducible refine le_alloc ?_) | (with_reducible refine Ext.le_size _ ?_) | (with_reducible refine le_drew ?_) | (with_reducible refine le_setCell ?_)))))).go.mono ?_; rintro e w' ⟨rfl, xe, rfl⟩) | fail)
    all_goals
      go_ret
      exact ⟨rfl, (by repeat' (first | (with_reducible exact Below.refl _ _) | (with_reducible exact Nat.le_refl _) | (with_reducible refine Below.alloc ?_ ?_ _) | (with_reducible refine below_ext _ ?_ ?_) | (with_reducible refine Below.drew ?_) | (with_reducible refine Below.setCell ?_ ?_ _) | (with_reducible refine le_alloc ?_) | (with_reducible refine Ext.le_size _ ?_) | (with_reducible refine le_drew ?_) | (with_reducible refine le_setCell ?_)))⟩
theorem hash_lifted (os : Os) (started : os.Started) (H : Type) (enc : TypeId × Value → H) (F : Stop.Interp) :
    ReturnsInHanded {} Tryz.checked os 8 .any ((OpenSpec.ofChange Rows.loadfileHashSpec).preRow enc Tryz.prog Tryz.f8 Rows.loadfileHashRow.domain false Rows.loadfileHashRow.laid) (((OpenSpec.ofChange Rows.loadfileHashSpec).at F).post enc Tryz.prog Tryz.f8 false true false false) := by
  have hx : ∃ places, DataW.whole enc Tryz.prog ((laidWorld os).forCall (fun _ _ => 0) ⟨#[], #[.slice none 0 0], []⟩).memory Tryz.f8.params.toList Rows.loadfileHashSpec.vars false #[.slice none 0 0].toList 16 = some ([.nil], [], places) := ⟨[], by kernel_rfl⟩
  obtain ⟨places, hx⟩ := hx
  refine returnsInHanded_of_row (C := Tryz.checked) (s := OpenSpec.ofChange Rows.loadfileHashSpec) ownKnob' started (by kernel_rfl) Tryz.func8
    (witness_row_at (enc := enc) (C := Tryz.checked) false (laidWorld os) #[.slice none 0 0] rfl (by kernel_rfl) (by kernel_rfl) (by kernel_rfl)
      (OpenSpec.preRow_of_cond 16 hx (by kernel_rfl) (fun k hk => by cases hk) (by kernel_rfl) (laidMet_of_run' 16 (by kernel_rfl) (by kernel_rfl)))) ?_
  intro W base args ds gs before hval hW _ _ _ hL _ _
  refine law_post (f := 8) (fn := Tryz.f8) (s := Rows.loadfileHashSpec) rfl rfl (by kernel_rfl) (fun ds hds => ?_) hW fun ps hA => ?_
  · match ds, hds with
    | [_], _ => rfl
  · have hO := obj_at hL
    have hA' : DataW.TrodAll enc Tryz.prog W 0 (fun _ => true) true [22] args.toList _ ps := hA
    obtain ⟨v0, vs0, d0, ds0, p0, q0, hargs, rfl, rfl, h0, r0⟩ := trodAll_cons hA'
    obtain ⟨rfl, rfl, rfl⟩ := trodAll_nil r0
    obtain rfl : args = #[v0] := by cases args; simp_all
    obtain ⟨s, rfl, hs, _⟩ := arg_byt (hval 0 _ _ rfl rfl) h0
    exact hash_law s W hs hO
theorem hash_said : Rows.LoadfileHashSaid :=
  OpenClaim.holds_of_cond 8 Tryz.f8 rfl rfl rfl rfl rfl rfl rfl ⟨rfl, rfl, rfl, rfl, rfl⟩ rfl rfl rfl rfl rfl (by kernel_rfl) Tryz.func8 (by kernel_rfl)
    (of_decide_eq_true (by kernel_rfl)) (by unfold Func.isWrapper; first | (rw [if_pos (by decide +kernel)]; kernel_rfl) | (rw [if_neg (by decide +kernel)]; exact ⟨rfl, rfl⟩))
    (fun os started H enc _ F => by rw [OpenClaim.pre_eq_preRow]; exact hash_lifted os started H enc F)
theorem hash_plain (f : FuncId) (fn : Func) (hf : Tryz.pinned.checked.prog.funcNamed Rows.loadfileHashRow.func = some f) (hfn : Tryz.pinned.checked.prog.funcs[f]? = some fn) :
    true = Tryz.pinned.checked.prog.looks [] ∧ ∀ (j : Nat) t, fn.params[j]? = some t → Tryz.pinned.checked.prog.wantsStandIn t = false := by
  obtain rfl : f = 8 := Option.some.inj ((show Tryz.prog.funcNamed Rows.loadfileHashRow.func = some 8 by kernel_rfl).symm.trans hf) |>.symm
  obtain rfl : fn = Tryz.f8 := (Option.some.inj (Tryz.func8.symm.trans hfn)).symm
  refine ⟨by kernel_rfl, fun j t ht => ?_⟩
  have hall : (Tryz.f8.params.toList.all fun t => !Tryz.pinned.checked.prog.wantsStandIn t) = true := by kernel_rfl
  have hm : t ∈ Tryz.f8.params.toList := by
    rw [Array.getElem?_eq_some_iff] at ht
    obtain ⟨hl, he⟩ := ht
    rw [← he]
    simp
  simpa using List.all_eq_true.1 hall t hm
/-- The law, with its listed variable tied to the program's text. -/
theorem hash_holds : Rows.LoadfileHashCardSaid :=
  Claim7.holds_tied_plain_at .later [] _ _ _ _ hash_said (fun _ h => by cases h) (by kernel_rfl) (fun _ h => by cases h) loadfileHash_row_tie rfl ⟨rfl, rfl⟩ (by kernel_rfl) rfl hash_plain (by kernel_rfl)
#print axioms hash_holds
end Go.Proofs.YthagkijplklemaaGreatDoor
end
