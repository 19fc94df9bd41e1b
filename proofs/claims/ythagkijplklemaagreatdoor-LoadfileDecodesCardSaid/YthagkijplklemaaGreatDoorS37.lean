/- A package that came in: read out of memory as one of my values. -/
import Derived.Test.YthagkijplklemaaGreatDoorS36
import Derived.Deep.Slices
section
namespace Go.Sc
open Go.ChangeShapes Go.WideShapes Go.ChangeAt Go.RowKit
section
variable {H : Type} {enc : TypeId × Value → H} {P : Program} {w : World} {base : Nat} {spare : Nat → Bool} {held : Bool}
theorem cell_spot {w : World} {a : Addr} {v : Value} (h : w.cell? a = some v) : a.spot = none ∧ a.block < w.heap.size := by
  unfold World.cell? at h
  split at h
  · rename_i c t fr hh
    refine ⟨?_, (Array.getElem?_eq_some_iff.1 hh).1⟩
    cases hs : a.spot with
    | none => rfl
    | some s => simp [hs] at h
  all_goals cases h
theorem open_slA {α : Type} {E : El α} {t e : TypeId} {m : Nat} {fuel : Nat} {cs : List Value} {x : DataW H × List MemPlace} (hm : 0 < m) (ht : P.underlying t = some (.slice e)) (hc : P.cellsOf e = m)
    (hE : ∀ (n : Nat) (cs' : List Value) (y : DataW H × List MemPlace), DataW.trod enc P w base spare held n e cs' = some y → ∃ x : α, cs' = E.cells x ∧ E.ok w x)
    (h : DataW.trod enc P w base spare held fuel t cs = some x) : ∃ s : Sl α, cs = [s.v] ∧ s.Ok E m w := by
  rcases Deep.open_slice ht h with ⟨rfl, _⟩ | ⟨a, len, cap, k, n, D, Pl, rfl, hb, hl, hcm, hk, _, hx⟩
  · exact ⟨⟨none, 0, []⟩, rfl, by simp, by simp, fun _ => rfl, fun k x h => by simp at h⟩
  · have hlk : len ≤ k := by rw [hk]; split <;> omega
    have each : ∀ i, i < len → ∃ y : α, w.cells? base (a.add (i * P.cellsOf e)) (P.cellsOf e) = some (E.cells y) ∧ E.ok w y := fun i hi => by
      obtain ⟨cs', h1, h2⟩ := hx i (by omega)
      obtain ⟨y, rfl, hy⟩ := hE _ _ _ h2
      exact ⟨y, h1, hy⟩
    have build : ∀ j, j ≤ len → ∃ xs : List α, xs.length = j ∧ ∀ (i : Nat) (y : α), xs[i]? = some y → w.cells? base (a.add (i * P.cellsOf e)) (P.cellsOf e) = some (E.cells y) ∧ E.ok w y := by
      intro j
      induction j with
      | zero => exact fun _ => ⟨[], rfl, fun i y h => by simp at h⟩
      | succ j ih =>
        intro hj
        obtain ⟨xs, h1, h2⟩ := ih (by omega)
        obtain ⟨y, hy⟩ := each j (by omega)
        refine ⟨xs ++ [y], by simp [h1], fun i z hz => ?_⟩
        by_cases hi : i < xs.length
        · rw [List.getElem?_append_left hi] at hz; exact h2 i z hz
        · rw [List.getElem?_append_right (by omega)] at hz
          have hi0 : i - xs.length = 0 := by
            have := (List.getElem?_eq_some_iff.1 hz).1
            simp at this; omega
          rw [hi0] at hz
          simp at hz
          subst hz
          have : i = j := by omega
          subst this
          exact hy
    obtain ⟨xs, hxl, hxs⟩ := build len (Nat.le_refl _)
    unfold maxLen at hcm
    subst hxl
    refine ⟨⟨some a, cap, xs⟩, rfl, hl, hcm, (fun h => by cases h), fun i y hy => ?_⟩
    simp only at hy
    obtain ⟨h1, h2⟩ := hxs i y hy
    obtain ⟨_, h3, h4⟩ := World.cells?_some h1
    rw [hc] at h3 h4
    have hc0 : w.cell? ((a.add (i * m)).add 0) = (E.cells y)[0]? := h4 0 hm
    have hs0 : ∃ v, (E.cells y)[0]? = some v := getElem?_of_lt (by omega)
    obtain ⟨v0, hv0⟩ := hs0
    rw [hv0] at hc0
    obtain ⟨q1, q2⟩ := cell_spot hc0
    -- the first element's address tells that the slice's own has no spot
    have hsp : a.spot = none := by
      have hi : i < xs.length := (List.getElem?_eq_some_iff.1 hy).1
      obtain ⟨z, hz⟩ := getElem?_of_lt (show 0 < xs.length by omega)
      obtain ⟨g1, _⟩ := hxs 0 z hz
      obtain ⟨_, g3, g4⟩ := World.cells?_some g1
      rw [hc] at g3 g4
      have gc0 := g4 0 hm
      obtain ⟨u0, hu0⟩ := getElem?_of_lt (show 0 < (E.cells z).length by omega)
      rw [hu0] at gc0
      have := (cell_spot gc0).1
      simpa [Addr.add] using this
    obtain ⟨b, off, sp⟩ := a
    simp only at hsp
    subst hsp
    refine ⟨h2, b, off, rfl, ?_, fun j v hv => ?_⟩
    · have e : ((⟨b, off, none⟩ : Addr).add (i * m)).add 0 = ⟨b, off + i * m, none⟩ := by unfold Addr.add; split <;> simp_all
      rw [e] at q2
      exact q2
    · have hj : j < m := by have := (List.getElem?_eq_some_iff.1 hv).1; omega
      have := h4 j hj
      rw [hv] at this
      have e : ((⟨b, off, none⟩ : Addr).add (i * m)).add j = ⟨b, off + i * m + j, none⟩ := by
        unfold Addr.add
        split <;> split <;> simp_all
      rw [e] at this
      exact this
end
end Go.Sc
namespace Go.Proofs.YthagkijplklemaaGreatDoor
open Go.ChangeShapes Go.WideShapes Go.ChangeAt Go.RowKit Go.Sc
set_option maxRecDepth 100000
section
variable {H : Type} {enc : TypeId × Value → H} {w : World} {base : Nat} {spare : Nat → Bool} {held : Bool} {n : Nat} {cs : List Value} {y : DataW H × List MemPlace}
theorem cInt : Tryz.prog.cellsOf 3 = 1 := by kernel_rfl
theorem cRf : Tryz.prog.cellsOf 44 = 2 := by kernel_rfl
theorem cU8 : Tryz.prog.cellsOf 5 = 1 := by kernel_rfl
theorem open_byte (h : DataW.trod enc Tryz.prog w base spare held n 5 cs = some y) : ∃ x : Int, cs = eByte.cells x ∧ eByte.ok w x := by
  obtain ⟨x, h1, _, h2⟩ := DataW.trod_int Tryz.underlying5 h
  refine ⟨x, h1, ?_⟩
  simp [Lit.wf, IntKind.min, IntKind.max, IntKind.signed, IntKind.bits] at h2
  exact ⟨by omega, by omega⟩
theorem open_bytes (h : DataW.trod enc Tryz.prog w base spare held n 22 cs = some y) : ∃ s : Sl Int, cs = [s.v] ∧ Bytes w s :=
  open_slA (by omega) Tryz.underlying22 cU8 (fun _ _ _ => open_byte) h
end
end Go.Proofs.YthagkijplklemaaGreatDoor
end
