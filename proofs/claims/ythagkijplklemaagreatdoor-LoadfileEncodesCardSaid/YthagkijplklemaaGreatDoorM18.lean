/- The program's reader: bytes, number, wide, aid. -/
import Derived.Test.YthagkijplklemaaGreatDoorM11
import Derived.Test.YthagkijplklemaaGreatDoorM12
import Derived.Test.YthagkijplklemaaGreatDoorM16
import Derived.WalkSpells
import Derived.Outline
section
namespace Go.Proofs.YthagkijplklemaaGreatDoor
open Go.ChangeShapes Go.WideShapes Go.ChangeAt Go.RowKit Go.Sc
/-- A slice of bytes that does not lie in block p. -/
def RepB (p : Nat) : Rp (List Int) := fun _ w v x => ∃ (a : Option Addr) (c : Nat), v = .slice a x.length c ∧ Bytes w ⟨a, c, x⟩ ∧ ∀ b o q, a = some ⟨b, o, q⟩ → b < p
theorem addr_add (b o k : Nat) : (⟨b, o, none⟩ : Addr).add k = ⟨b, o + k, none⟩ := by unfold Addr.add; split <;> simp_all
theorem bytes_take {w : World} {a : Option Addr} {c k : Nat} {bs : List Int} (h : Bytes w ⟨a, c, bs⟩) (hk : k ≤ bs.length) : Bytes w ⟨a, k, bs.take k⟩ :=
  ⟨by simp; omega, by have := h.max; have := h.le; simp only at *; omega, fun e => by have := h.nil e; have := h.le; simp only at *; omega, fun j x hx => h.at_ j x (by
    simp only [List.getElem?_take] at hx
    split at hx
    · exact hx
    · cases hx)⟩
theorem bytes_drop {w : World} {a : Option Addr} {c k : Nat} {bs : List Int} (h : Bytes w ⟨a, c, bs⟩) (hk : k ≤ bs.length) : Bytes w ⟨a.map (·.add k), c - k, bs.drop k⟩ := by
  have hle := h.le
  have hmx := h.max
  simp only at hle hmx
  refine ⟨by simp; omega, by simp only; omega, fun e => ?_, fun j x hx => ?_⟩
  · cases a with
    | none => have := h.nil rfl; simp only at *; omega
    | some ad => simp at e
  · rw [List.getElem?_drop] at hx
    obtain ⟨h1, b, off, h2, h3, h4⟩ := h.at_ (k + j) x hx
    simp only at h2
    subst h2
    refine ⟨h1, b, off + k, by simp [addr_add], h3, fun i v hv => ?_⟩
    have := h4 i v hv
    rw [show off + k + j * 1 + i = off + (k + j) * 1 + i from by omega]
    exact this
theorem rbytes_close {U : TypeId} {p k : Nat} {w : World} {bs : List Int} {a A : Option Addr} {c C : Nat} (hR : Rd p w bs) (hc : w.cell? ⟨p, 0, none⟩ = some (.slice a bs.length c)) (hb : Bytes w ⟨a, c, bs⟩) (hne : ∀ b o q, a = some ⟨b, o, q⟩ → b < p)
    (hk : k ≤ bs.length) (hA : (c = k ∧ A = a ∧ C = 0) ∨ (A = a.map (·.add k) ∧ C = c - k)) :
    RdOut U p w (bytesP k bs) (RepB p) (.returned (.slice a k k)) (w.setCell ⟨p, 0, none⟩ (.slice A (bs.length - k) C)) := by
  have hle := hb.le
  simp only at hle
  have hsz : (w.setCell ⟨p, 0, none⟩ (.slice A (bs.length - k) C)).heap.size = w.heap.size := by simp [World.setCell]
  have hsame : ∀ {s : Sl Int}, Bytes w s → (∀ b o q, s.a = some ⟨b, o, q⟩ → b < p) → Bytes (w.setCell ⟨p, 0, none⟩ (.slice A (bs.length - k) C)) s := fun hs hn =>
    bytes_same hs (by rw [hsz]; exact Nat.le_refl _) fun b o e => Below.heap_setCell _ _ _ _ (Nat.ne_of_lt (hn b o none e))
  refine RdOut.ret (x := bs.take k) (rest := bs.drop k) (Fp.refl.setCell (.inl rfl) _) (by unfold bytesP; rw [if_neg (by omega)]) ⟨a, k, by simp; omega, hsame (bytes_take hb hk) hne, hne⟩ ?_
  refine ⟨by rw [hsz]; exact hR.1, by simpa using hR.2.1, A, C, ?_, ?_, ?_⟩
  · rw [World.cell?_setCell_same' _ _ _ (by rw [hc]; rfl)]; simp
  · rcases hA with ⟨h1, rfl, rfl⟩ | ⟨rfl, rfl⟩
    · have : bs.drop k = [] := List.drop_eq_nil_of_le (by omega)
      rw [this]
      refine ⟨by simp, by simp, fun _ => rfl, fun j x hx => by simp at hx⟩
    · refine hsame (bytes_drop hb hk) fun b o q e => ?_
      cases a with
      | none => simp at e
      | some ad =>
        simp at e
        obtain ⟨b', o', q'⟩ := ad
        have : b = b' := by unfold Addr.add at e; split at e <;> simp at e <;> exact e.1.symm
        subst this
        exact hne b o' q' rfl
  · intro b o q e
    rcases hA with ⟨h1, rfl, rfl⟩ | ⟨rfl, rfl⟩
    · exact hne b o q e
    · cases a with
      | none => simp at e
      | some ad =>
        simp at e
        obtain ⟨b', o', q'⟩ := ad
        have : b = b' := by unfold Addr.add at e; split at e <;> simp at e <;> exact e.1.symm
        subst this
        exact hne b o' q' rfl
set_option maxHeartbeats 1000000 in
theorem rbytes_any (p k : Nat) (w : World) (bs : List Int) (hR : Hid (Rd p w bs)) : Parses 101 Tryz.prog 192 #[.pointer (some ⟨p, 0, none⟩), .int .i64 k] p w (bytesP k bs) (RepB p) := by
  unfold Parses
  obtain ⟨hlt, hfz, a, c, hc, hb, hne⟩ := hR.out
  have hle := hb.le
  have hmx := hb.max
  simp only at hle hmx
  have HB := hid hb
  have HNE := hid hne
  clear hb hne
  by_cases h : bs.length < k
  · have HE : Hid (bytesP k bs = .error 5) := by
      have : bytesP k bs = .error 5 := by unfold bytesP; rw [if_pos h]
      exact this
    go_enter Tryz.func192, Tryz.ntmps192
    go_wp2
    exact ⟨rfl, RdOut.err .refl HE.out⟩
  · have hk : k ≤ bs.length := by omega
    clear h
    go_enter Tryz.func192, Tryz.ntmps192
    go_wp2
    · go_ret
      exact rbytes_close hR.out (by assumption) HB.out HNE.out hk (.inl ⟨by omega, rfl, rfl⟩)
    · go_ret
      exact rbytes_close hR.out hc HB.out HNE.out hk (.inr ⟨rfl, rfl⟩)
end Go.Proofs.YthagkijplklemaaGreatDoor
end
