/- The reference's Hex; the law's least package; the program's Hash. -/
import Derived.Test.YthagkijplklemaaGreatDoorS25
import Derived.BigGuardPart
section
namespace Go.Proofs.YthagkijplklemaaGreatDoor
open Go.ChangeShapes Go.WideShapes Go.ChangeAt Go.RowKit Go.Sc
theorem lhash_any (s : Sl Int) (w : World) (hs : Hid (Bytes w s)) (hl : s.xs.length ≤ 900000) : GivesB Tryz.prog 21 #[s.v] w (fun v => v) (hashL s.xs) := by
  have hC := hid (mhash_any s w hs hl)
  obtain ⟨a, c, xs⟩ := s
  simp only at hC ⊢
  generalize hashL xs = zs at *
  unfold GivesB
  go_enter Tryz.func21, Tryz.ntmps21
  go_wp2_with (go_at_call 54; refine hC.out.go.mono ?_; rintro e w' ⟨A, C, x, rfl, rfl, hb, hf⟩)
  go_ret
  exact ⟨A, C, rfl, hb.out, x.below, hf.out⟩
def dig16 : ByteArray := { data := #[48, 49, 50, 51, 52, 53, 54, 55, 56, 57, 97, 98, 99, 100, 101, 102] }
def hexOne (S : ByteArray) (y : Int) : ByteArray := S ++ dig16.extract (y / 16).toNat (y / 16 + 1).toNat ++ dig16.extract (y % 16).toNat (y % 16 + 1).toNat
def hexA (xs : List Int) : ByteArray := xs.foldl hexOne { data := #[] }
theorem hexA_snoc {xs : List Int} {k : Nat} {y : Int} (h : xs[k]? = some y) : hexA (xs.take (k + 1)) = hexOne (hexA (xs.take k)) y := by
  unfold hexA
  rw [List.take_add_one, h, List.foldl_append]; rfl
theorem hexOne_size {S : ByteArray} {y : Int} (h0 : 0 ≤ y) (h1 : y ≤ 255) : (hexOne S y).size = S.size + 2 := by
  have hs : dig16.size = 16 := rfl
  unfold hexOne
  simp only [ByteArray.size_append, ByteArray.size_extract, hs]
  omega
def HexOut (xs : List Int) (w : World) (e : Ending) (w' : World) : Prop := e = .returned (.string (hexA xs)) ∧ Below w.heap.size w w'
set_option maxRecDepth 20000 in
theorem hex_any (a : Option Addr) (c : Nat) (xs : List Int) (w : World) (hs : Hid (Bytes w ⟨a, c, xs⟩)) (hl : xs.length ≤ 1000000) : Gives Tryz.prog 24 #[.slice a xs.length c] w (.string (hexA xs)) := by
  have hle := hs.out.le
  have hmx := hs.out.max
  simp only at hle hmx
  show Calls _ _ _ _ (HexOut xs w)
  go_enter Tryz.func24, Tryz.ntmps24
  go_wp2_with fail
  go_loopw [4, 5] (fun s i wr => ∃ (k : Nat) (S : ByteArray), k ≤ xs.length ∧ i = .int .i64 k ∧ s = .string S ∧ Hid (S = hexA (xs.take k)) ∧ Hid (S.size = 2 * k) ∧ ∃ x : Ext w, wr = x.val) (fun _ i _ => xs.length - (intOf i).toNat)
  case atStart => exact ⟨0, _, Nat.zero_le _, rfl, rfl, rfl, rfl, ⟨w, Below.refl _ _⟩, rfl⟩
  case round =>
    obtain ⟨k, S, hk, rfl, rfl, hSA, HS, x, rfl⟩ := hrel
    have hS1 : (S.size : Int) ≤ 2000000 := by have := HS.out; omega
    by_cases hlt : k < xs.length
    · obtain ⟨y, hy⟩ := getElem?_of_lt hlt
      obtain ⟨⟨hy0, hy1⟩, b, off, hba, hbl, hc⟩ := hs.out.at_ k y hy
      simp only at hba
      subst hba
      have h0 := hc 0 _ rfl; simp only [Nat.add_zero, Nat.mul_one] at h0
      haveI : InW b w := ⟨hbl⟩
      have HY := hid hy
      clear hc hy hbl
      have hk1 : (0 : Int) ≤ (k : Int) := by omega
      have hk2 : (k : Int) < (xs.length : Int) := by omega
      have q0 : (0 : Int) ≤ y / 16 := by omega
      have q1 : y / 16 < 16 := by omega
      have q2 : (0 : Int) ≤ y % 16 := by omega
      have q3 : y % 16 < 16 := by omega
      go_wp2_with fail
      refine wp_region_ext (by kernel_rfl) (by kernel_rfl) ?_; (repeat (go_big_quiet_step (fail))); refine wpQuiet_nil ?_; intro xw
      go_wp2_with fail
      refine ⟨⟨k + 1, hexOne S y, by omega, by go_num, rfl, hid (by rw [hSA.out, hexA_snoc HY.out]), hid (by rw [hexOne_size hy0 hy1, HS.out]; omega), ⟨_, END⟩, rfl⟩, ?_⟩
      simp [intOf]; omega
    · go_wp2_with fail
      obtain rfl : k = xs.length := by omega
      go_ret
      exact ⟨ret_val (congrArg Value.string (hSA.out.trans (by rw [List.take_length]))), x.below⟩
end Go.Proofs.YthagkijplklemaaGreatDoor
end
