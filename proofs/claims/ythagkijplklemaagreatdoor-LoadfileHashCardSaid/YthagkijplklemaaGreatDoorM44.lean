/- Bytes that came in as an argument. -/
import Derived.Test.YthagkijplklemaaGreatDoorM35
section
namespace Go.Proofs.YthagkijplklemaaGreatDoor
open Go.ChangeShapes Go.WideShapes Go.ChangeAt Go.RowKit Go.Sc
set_option maxRecDepth 100000
/-- Bytes that are an argument. -/
theorem arg_byt {H : Type} {enc : TypeId × Value → H} {W : World} {base : Nat} {v : Value} {d : DataW H} {p : List MemPlace}
    (hv : Value.okWide Tryz.prog W .any base 22 v) (h : DataW.Trod enc Tryz.prog W 0 (fun _ => true) true 22 v d p) : ∃ s : Sl Int, v = s.v ∧ Bytes W s ∧ ∀ b o q, s.a = some ⟨b, o, q⟩ → b < W.heap.size := by
  obtain ⟨a, len, cap, rfl⟩ := okWide_slice Tryz.underlying22 hv
  obtain ⟨fuel, hf⟩ := h
  obtain ⟨s, hs, hok⟩ := open_bytes hf
  simp only [Value.cells] at hs
  have hs : Value.slice a len cap = s.v := by simpa using hs
  refine ⟨s, hs, hok, fun b o q he => ?_⟩
  simp only [Value.slice.injEq] at hs
  obtain ⟨rfl, rfl, rfl⟩ := hs
  simp only [Value.okWide, Tryz.underlying22, Cell.okWide, Cell.ok, he] at hv
  obtain ⟨_, _, _, _, row, cells, hsh, _⟩ := hv
  simp only [World.shape?] at hsh
  by_cases hlt : b < W.heap.size
  · exact hlt
  · rw [Array.getElem?_eq_none (by omega)] at hsh
    simp at hsh
end Go.Proofs.YthagkijplklemaaGreatDoor
end
