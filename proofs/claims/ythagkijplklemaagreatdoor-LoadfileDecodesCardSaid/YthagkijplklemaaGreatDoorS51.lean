/- LoadfileDecodes holds: for all bytes the law returns true, and they read as before. No condition but that the listed variable starts as the program's text lays it. -/
import Derived.Test.YthagkijplklemaaGreatDoorS38
import Derived.Test.YthagkijplklemaaGreatDoorS49
import Derived.Test.YthagkijplklemaaGreatDoorS50
import Derived.BigGuardPart
section
namespace Go.Proofs.YthagkijplklemaaGreatDoor
open Go.ChangeShapes Go.WideShapes Go.ChangeAt Go.RowKit Go.Sc
set_option maxRecDepth 100000
def zPk : Pk := ⟨⟨none, 0, []⟩, 0, 0, ⟨none, 0, []⟩, ⟨none, 0, []⟩, ⟨none, 0, []⟩, ⟨none, 0, []⟩, ⟨none, 0, []⟩⟩
theorem sl_nil {α : Type} {E : El α} {m : Nat} {w : World} : Sl.Ok E m w ⟨none, 0, []⟩ := ⟨by simp, by simp, fun _ => rfl, fun j x hx => by simp at hx⟩
theorem zPk_ok (w : World) : zPk.Ok w := ⟨sl_nil, ⟨by decide, by decide⟩, ⟨by decide, by decide⟩, sl_nil, sl_nil, sl_nil, sl_nil, sl_nil⟩
/-- What either Decode hands back: a package that reads like x, and an error. -/
def Dec2 (x : Pk) (c : Int) (W : World) (e : Ending) (w' : World) : Prop := ∃ (q : Pk) (y : Ext W), e = .returned (.tuple #[q.v, .int .i64 c]) ∧ w' = y.val ∧ Hid (q.Ok y.val) ∧ Hid (Pk.er q = x)
theorem dec2 (r : Except Int Pk) : ∃ (x : Pk) (c : Int), ∀ (W : World) (e : Ending) (w' : World), DecodeOut W r e w' → Dec2 x c W e w' := by
  cases r with
  | ok x => exact ⟨x, 0, fun W e w' ⟨hb, h1, _⟩ => by
      obtain ⟨q, rfl, hq, he⟩ := h1 x rfl
      exact ⟨q, ⟨w', hb⟩, rfl, rfl, hq, he⟩⟩
  | error c => exact ⟨Pk.er zPk, c, fun W e w' ⟨hb, _, h1⟩ => ⟨zPk, ⟨w', hb⟩, (h1 c rfl).2, rfl, hid (zPk_ok _), hid rfl⟩⟩
set_option maxHeartbeats 4000000 in
theorem decodes_law (s : Sl Int) (w : World) (hs : Hid (Bytes w s)) (hlt : Hid (∀ b o q, s.a = some ⟨b, o, q⟩ → b < w.heap.size)) (hg : Hid (ObjAt w 0)) : Gives Tryz.prog 5 #[s.v] w (.bool true) := by
  obtain ⟨a, c, bs⟩ := s
  show Gives _ _ #[.slice a bs.length c] _ _
  unfold Gives
  by_cases hl : (3000 : Int) < (bs.length : Int)
  · go_enter Tryz.func5, Tryz.ntmps5
    go_wp2_with (first | (go_at_call 11; refine (example_any _ (hid (hg.out.mono END))).go.mono ?_; rintro e w' ⟨rfl, xe, rfl⟩) | fail)
    go_ret
    exact ⟨rfl, END⟩
  · obtain ⟨x, d, hx⟩ := dec2 (decodeP bs)
    have hP : Hid (∀ W : World, Below w.heap.size w W → Calls Tryz.prog 17 #[.slice a bs.length c] W (Dec2 x d W)) := fun W h =>
      (ldecode_any ⟨a, c, bs⟩ W (hs.out.mono h) (hid fun b o q e => Nat.lt_of_lt_of_le (hlt.out b o q e) h.size) (hg.out.mono h)).mono fun e w' => hx W e w'
    have hR : Hid (∀ W : World, Below w.heap.size w W → Calls Tryz.prog 18 #[.slice a bs.length c] W (Dec2 x d W)) := fun W h =>
      (rdecode28_any ⟨a, c, bs⟩ W (hs.out.mono h) (hid fun b o q e => Nat.lt_of_lt_of_le (hlt.out b o q e) h.size)).mono fun e w' => hx W e w'
    have hS : Hid (∀ p q : Pk, Pk.er p = x → Pk.er q = x → ∀ W : World, p.Ok W → q.Ok W → Gives Tryz.prog 19 #[p.v, q.v] W (.bool true)) := fun p q e1 e2 W h k => by
      have := rpkSame_any p q W h k
      rwa [pkEq_of_er (e1.trans e2.symm)] at this
    clear hx hlt hs
    go_enter Tryz.func5, Tryz.ntmps5
    go_wp2_with (first | (go_at_call 17; refine (hP.out _ END).mono ?_; rintro e w' ⟨p1, x1, rfl, rfl, ho1, he1⟩) | (go_at_call 18; refine (hR.out _ END).mono ?_; rintro e w' ⟨p2, x2, rfl, rfl, ho2, he2⟩) | (go_at_call 19; refine (hS.out _ _ he1.out he2.out _ (hid (ho1.out.mono END)) (hid (ho2.out.mono END))).go.mono ?_; rintro e w' ⟨rfl, x3, rfl⟩) | (go_at_call 11; refine (example_any _ (hid (hg.out.mono END))).go.mono ?_; rintro e w' ⟨rfl, xe, rfl⟩) | fail)
    all_goals
      go_ret
      exact ⟨rfl, END⟩
theorem decodes_lifted (os : Os) (started : os.Started) (H : Type) (enc : TypeId × Value → H) (F : Stop.Interp) :
    ReturnsInHanded {} Tryz.checked os 5 .any ((OpenSpec.ofChange Rows.loadfileDecodesSpec).preRow enc Tryz.prog Tryz.f5 Rows.loadfileDecodesRow.domain false Rows.loadfileDecodesRow.laid) (((OpenSpec.ofChange Rows.loadfileDecodesSpec).at F).post enc Tryz.prog Tryz.f5 false true false false) := by
  have hx : ∃ places, DataW.whole enc Tryz.prog ((laidWorld os).forCall (fun _ _ => 0) ⟨#[], #[.slice none 0 0], []⟩).memory Tryz.f5.params.toList Rows.loadfileDecodesSpec.vars false #[.slice none 0 0].toList 16 = some ([.nil], [], places) := ⟨[], by kernel_rfl⟩
  obtain ⟨places, hx⟩ := hx
  refine returnsInHanded_of_row (C := Tryz.checked) (s := OpenSpec.ofChange Rows.loadfileDecodesSpec) ownKnob' started (by kernel_rfl) Tryz.func5
    (witness_row_at (enc := enc) (C := Tryz.checked) false (laidWorld os) #[.slice none 0 0] rfl (by kernel_rfl) (by kernel_rfl) (by kernel_rfl)
      (OpenSpec.preRow_of_cond 16 hx (by kernel_rfl) (fun k hk => by cases hk) (by kernel_rfl) (laidMet_of_run' 16 (by kernel_rfl) (by kernel_rfl)))) ?_
  intro W base args ds gs before hval hW _ _ _ hL _ _
  refine law_post (f := 5) (fn := Tryz.f5) (s := Rows.loadfileDecodesSpec) rfl rfl (by kernel_rfl) (fun ds hds => ?_) hW fun ps hA => ?_
  · match ds, hds with
    | [_], _ => rfl
  · have hO := obj_at hL
    have hA' : DataW.TrodAll enc Tryz.prog W 0 (fun _ => true) true [22] args.toList _ ps := hA
    obtain ⟨v0, vs0, d0, ds0, p0, q0, hargs, rfl, rfl, h0, r0⟩ := trodAll_cons hA'
    obtain ⟨rfl, rfl, rfl⟩ := trodAll_nil r0
    obtain rfl : args = #[v0] := by cases args; simp_all
    obtain ⟨s, rfl, hs, hlt⟩ := arg_byt (hval 0 _ _ rfl rfl) h0
    exact decodes_law s W hs hlt hO
theorem decodes_said : Rows.LoadfileDecodesSaid :=
  OpenClaim.holds_of_cond 5 Tryz.f5 rfl rfl rfl rfl rfl rfl rfl ⟨rfl, rfl, rfl, rfl, rfl⟩ rfl rfl rfl rfl rfl (by kernel_rfl) Tryz.func5 (by kernel_rfl)
    (of_decide_eq_true (by kernel_rfl)) (by unfold Func.isWrapper; first | (rw [if_pos (by decide +kernel)]; kernel_rfl) | (rw [if_neg (by decide +kernel)]; exact ⟨rfl, rfl⟩))
    (fun os started H enc _ F => by rw [OpenClaim.pre_eq_preRow]; exact decodes_lifted os started H enc F)
theorem decodes_plain (f : FuncId) (fn : Func) (hf : Tryz.pinned.checked.prog.funcNamed Rows.loadfileDecodesRow.func = some f) (hfn : Tryz.pinned.checked.prog.funcs[f]? = some fn) :
    true = Tryz.pinned.checked.prog.looks [] ∧ ∀ (j : Nat) t, fn.params[j]? = some t → Tryz.pinned.checked.prog.wantsStandIn t = false := by
  obtain rfl : f = 5 := Option.some.inj ((show Tryz.prog.funcNamed Rows.loadfileDecodesRow.func = some 5 by kernel_rfl).symm.trans hf) |>.symm
  obtain rfl : fn = Tryz.f5 := (Option.some.inj (Tryz.func5.symm.trans hfn)).symm
  refine ⟨by kernel_rfl, fun j t ht => ?_⟩
  have hall : (Tryz.f5.params.toList.all fun t => !Tryz.pinned.checked.prog.wantsStandIn t) = true := by kernel_rfl
  have hm : t ∈ Tryz.f5.params.toList := by
    rw [Array.getElem?_eq_some_iff] at ht
    obtain ⟨hl, he⟩ := ht
    rw [← he]
    simp
  simpa using List.all_eq_true.1 hall t hm
/-- The law, with its listed variable tied to the program's text. -/
theorem decodes_holds : Rows.LoadfileDecodesCardSaid :=
  Claim7.holds_tied_plain_at .later [] _ _ _ _ decodes_said (fun _ h => by cases h) (by kernel_rfl) (fun _ h => by cases h) loadfileDecodes_row_tie rfl ⟨rfl, rfl⟩ (by kernel_rfl) rfl decodes_plain (by kernel_rfl)
#print axioms decodes_holds
end Go.Proofs.YthagkijplklemaaGreatDoor
end
