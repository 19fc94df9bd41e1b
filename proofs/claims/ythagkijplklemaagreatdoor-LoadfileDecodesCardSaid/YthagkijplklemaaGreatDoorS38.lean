/- The frame of a law of this seat: the listed variable, the row, the card. Bytes that came in as an argument. -/
import Derived.Test.YthagkijplklemaaGreatDoorS37
import Derived.Test.YthagkijplklemaaGreatDoorCards
import Derived.Test.YthagkijplklemaaGreatDoorTie
import Derived.Deep.DeepHandedRow
section
namespace Go.Proofs.YthagkijplklemaaGreatDoor
open Go.ChangeShapes Go.WideShapes Go.ChangeAt Go.RowKit Go.Sc
set_option maxRecDepth 100000
theorem ownKnob' : ownKnob Tryz.prog.godebug = none := by kernel_rfl
theorem laidOut : laidOutB Tryz.prog = true := by kernel_rfl
theorem gObj : Tryz.prog.globalNamed "smartcard/loadfile.object" = some 0 := by kernel_rfl
theorem gObjT : (Tryz.prog.globals[0]?).map (·.type) = some 44 := by kernel_rfl
/-- What the row's list gives. -/
theorem obj_at {W : World} (h : laidMetH Tryz.prog Rows.loadfileChecksRow.laid W) : ObjAt W 0 := by
  obtain ⟨ps, ⟨g', t', cs, fuel, p, q, hg', ht', hvar, hd, _, _⟩, _⟩ := (show laidMet Tryz.prog Rows.loadfileChecksRow.laid W from h)
  obtain rfl := Option.some.inj (gObj.symm.trans hg')
  obtain rfl := Option.some.inj (gObjT.symm.trans ht')
  obtain ⟨xs, m, _, hx, hl, hlen, hf⟩ := DataW.trod_struct Tryz.underlying44 hd
  obtain ⟨l⟩ := cs
  rw [cRf] at hl
  match l, hl with
  | [c0, c1], _ =>
    match xs, hlen with
    | [x0, x1], _ =>
      have g0 := hf 0 _ rfl
      have g1 := hf 1 _ rfl
      simp [cInt] at g0 g1
      obtain ⟨a, e0, k0, _⟩ := DataW.trod_int Tryz.underlying3 g0
      obtain ⟨b, e1, k1, _⟩ := DataW.trod_int Tryz.underlying3 g1
      simp at e0 e1
      subst e0 e1 k0 k1
      simp [Rows.laid_smartcard_loadfile_object] at hx
      obtain ⟨⟨rfl, rfl⟩, _⟩ := hx
      have q0 := World.var?_cell gObj hvar 0
      have q1 := World.var?_cell gObj hvar 1
      refine ⟨?_, q0, q1⟩
      exact (cell_spot q0).2
/-- THE LAW: a function that returns true and turns nothing that was there, in every world that holds the listed variable. -/
theorem law_post {H : Type} {enc : TypeId × Value → H} {fn : Func} {s : ChangeSpec} {f : FuncId} {W : World} {args : Array Value} {ds gs : List (DataW H)} {before : List MemPlace}
    (hres : fn.resultTypes = #[4]) (hvars : s.vars = []) (readable : (fn.params.toList.all fun t => Tryz.prog.readableRec t && decide (t < Tryz.prog.types.size)) = true)
    (hspec : ∀ ds : List (DataW H), ds.length = fn.params.toList.length → s.fn H ds = { results := [.lit (.bool true)], args := ds })
    (hW : DataW.Whole enc Tryz.prog fn.params.toList s.vars false W args.toList ds gs before)
    (walk : ∀ ps : List MemPlace, DataW.TrodAll enc Tryz.prog W 0 (fun _ => true) true fn.params.toList args.toList ds ps → Gives Tryz.prog f args W (.bool true)) :
    Calls Tryz.prog f args W fun e W' => ∃ v, e = .returned v ∧ s.post enc Tryz.prog fn false true false false W args v W' := by
  have hW' := hW
  obtain ⟨p, q, hA, hV, rfl, hfz, hnd⟩ := hW
  rw [hvars] at hV
  have hgs : gs = [] ∧ q = [] := by
    cases gs with
    | nil => exact ⟨rfl, hV⟩
    | cons g gs => exact hV.elim
  obtain ⟨rfl, rfl⟩ := hgs
  refine Calls.mono (walk p hA) fun e W' ⟨he, hb⟩ => ?_
  have hs := hspec (ds ++ []) (by simpa using trodAll_len hA)
  refine ⟨_, he, ds, [], p ++ [], [], p, [], hW', ?_, ?_, ?_, ?_, fun h => by cases h⟩
  · rw [hs, hres]; exact trodAll_mk1 (shut_bool Tryz.underlying4 _)
  · rw [hs]; simp only [List.append_nil]; exact trodAll_below laidOut hb readable hA
  · rw [hvars]
    have : (s.fn H (ds ++ [])).vars = [] := by rw [hs]
    rw [this]; exact rfl
  · exact hb.frame _
/-- A world for the witness: the settled one, the listed variable as its initialiser lays it. -/
noncomputable def laidWorld (os : Os) : World :=
  { World.holding Tryz.prog os ⟨#[], #[], []⟩ with heap := (World.holding Tryz.prog os ⟨#[], #[], []⟩).heap.modify 0 fun
      | .cells _ t frozen => .cells #[.int .i64 255, .int .i64 0] t frozen
      | o => o }
end Go.Proofs.YthagkijplklemaaGreatDoor
end

section
namespace Go.Proofs.YthagkijplklemaaGreatDoor
open Go.ChangeShapes Go.WideShapes Go.ChangeAt Go.RowKit Go.Sc
set_option maxRecDepth 100000
/-- Bytes that are an argument. -/
theorem arg_byt {H : Type} {enc : TypeId × Value → H} {W : World} {base : Nat} {v : Value} {d : DataW H} {p : List MemPlace}
    (hv : Value.okWide Tryz.prog W .any base 22 v) (h : DataW.Trod enc Tryz.prog W 0 (fun _ => true) true 22 v d p) : ∃ s : Sl Int, v = s.v ∧ Bytes W s ∧ ∀ b o q, s.a = some ⟨b, o, q⟩ → b < W.heap.size := by
  obtain ⟨a, len, cap, rfl⟩ := okWide_slice Tryz.underlying22 hv
  obtain ⟨fuel, hf⟩ := h
  obtain ⟨s, hs, hok⟩ := open_bytes hf
  simp only [Value.cells] at hs
  have hs : Value.slice a len cap = s.v := by simpa using hs
  refine ⟨s, hs, hok, fun b o q he => ?_⟩
  simp only [Value.slice.injEq] at hs
  obtain ⟨rfl, rfl, rfl⟩ := hs
  simp only [Value.okWide, Tryz.underlying22, Cell.okWide, Cell.ok, he] at hv
  obtain ⟨_, _, _, _, row, cells, hsh, _⟩ := hv
  simp only [World.shape?] at hsh
  by_cases hlt : b < W.heap.size
  · exact hlt
  · rw [Array.getElem?_eq_none (by omega)] at hsh
    simp at hsh
end Go.Proofs.YthagkijplklemaaGreatDoor
end
