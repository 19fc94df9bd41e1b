/- The program's code.Decode: an operand. -/
import Derived.Test.YthagkijplklemaaGreatDoorS09
import Derived.Test.YthagkijplklemaaGreatDoorS20
import Derived.BigGuardPart
import Derived.Laws.BitsLemmas
import Derived.IntWalk
section
namespace Go.Proofs.YthagkijplklemaaGreatDoor
open Go.ChangeShapes Go.WideShapes Go.ChangeAt Go.RowKit Go.Sc
/-- An operand and its number of bytes, 0 if there are too few. -/
def opN (f : Int) (l : List Int) : Int × Int :=
  if f = 1 then (match l with | x :: y :: z :: u :: _ => (sgn 4294967296 (x * 16777216 + y * 65536 + z * 256 + u), 4) | _ => (0, 0))
  else match l with | x :: _ => (if f = 3 then sgn 256 x else x, 1) | [] => (0, 0)
theorem wraps_u32 (n : Int) (h0 : 0 ≤ n) (h1 : n < 2 ^ 32) : IntKind.u32.wrap n = n := by rw [IntKind.wrap_u32]; omega
theorem or24 {x y : Int} (h1 : 0 ≤ x) (h2 : x ≤ 255) (h3 : 0 ≤ y) (h4 : y ≤ 255) : bits .or .u32 (x * 16777216) (y * 65536) = x * 16777216 + y * 65536 :=
  bits_join .u32 32 (by decide) wraps_u32 24 _ _ (by omega) (by omega) (by omega) (by omega) (by omega) (by omega)
theorem or16 {x z : Int} (h1 : 0 ≤ x) (h2 : x ≤ 4294901760) (h0 : x % 65536 = 0) (h3 : 0 ≤ z) (h4 : z ≤ 255) : bits .or .u32 x (z * 256) = x + z * 256 :=
  bits_join .u32 32 (by decide) wraps_u32 16 _ _ (by omega) (by omega) (by omega) (by omega) (by omega) (by omega)
theorem or8 {x z : Int} (h1 : 0 ≤ x) (h2 : x ≤ 4294967040) (h0 : x % 256 = 0) (h3 : 0 ≤ z) (h4 : z ≤ 255) : bits .or .u32 x z = x + z :=
  bits_join .u32 32 (by decide) wraps_u32 8 _ _ (by omega) (by omega) (by omega) (by omega) (by omega) (by omega)
theorem tup2 {a a' b b' : Int} (h1 : a = a') (h2 : b = b') : Ending.returned (.tuple #[.int .i64 a, .int .i64 b]) = .returned (.tuple #[.int .i64 a', .int .i64 b']) := by rw [h1, h2]
theorem w32_sgn {n : Int} (h1 : 0 ≤ n) (h2 : n < 4294967296) : wrap64 (wrap32 n) = sgn 4294967296 n := by
  unfold wrap64 wrap32 sgn
  split <;> omega
theorem w8_sgn {x : Int} (h1 : 0 ≤ x) (h2 : x ≤ 255) : wrap64 (IntKind.i8.wrap x) = sgn 256 x := by
  have e : IntKind.i8.wrap x = if 128 ≤ x then x - 256 else x := by
    have e1 : x % 256 = x := by omega
    by_cases h : 128 ≤ x <;> simp [IntKind.wrap, IntKind.signed, IntKind.bits, e1, h]
  rw [e]
  unfold wrap64 sgn
  split <;> split <;> omega
theorem opN_int {x y z u : Int} {r : List Int} (x1 : 0 ≤ x) (x2 : x ≤ 255) (y1 : 0 ≤ y) (y2 : y ≤ 255) (z1 : 0 ≤ z) (z2 : z ≤ 255) (u1 : 0 ≤ u) (u2 : u ≤ 255) :
    wrap64 (wrap32 (bits .or .u32 (bits .or .u32 (bits .or .u32 (x * 16777216) (y * 65536)) (z * 256)) u)) = (opN 1 (x :: y :: z :: u :: r)).1 := by
  rw [or24 x1 x2 y1 y2, or16 (by omega) (by omega) (by omega) z1 z2, or8 (by omega) (by omega) (by omega) u1 u2, w32_sgn (by omega) (by omega)]
  rfl
theorem operand_any (f : Int) (s : Sl Int) (w : World) (hs : Hid (Bytes w s)) : Gives Tryz.prog 225 #[.int .i64 f, s.v] w (.tuple #[.int .i64 (opN f s.xs).1, .int .i64 (opN f s.xs).2]) := by
  obtain ⟨a, c, xs⟩ := s
  have hle := hs.out.le
  have hmx := hs.out.max
  simp only at hle hmx
  show Gives _ _ #[_, .slice a xs.length c] _ _
  unfold Gives
  by_cases h1 : f = 1
  · subst h1
    by_cases hl : xs.length < 4
    · have he : opN 1 xs = (0, 0) := by
        match xs, hl with
        | [], _ => rfl
        | [_], _ => rfl
        | [_, _], _ => rfl
        | [_, _, _], _ => rfl
      rw [he]
      clear he
      go_enter Tryz.func225, Tryz.ntmps225
      go_wp2_with fail
      go_ret2
      exact ⟨rfl, END⟩
    · obtain ⟨x, y, z, u, r, rfl⟩ : ∃ x y z u r, xs = x :: y :: z :: u :: r := by
        match xs, hl with
        | [], hl => simp at hl
        | [_], hl => simp at hl
        | [_, _], hl => simp at hl
        | [_, _, _], hl => simp at hl
        | x :: y :: z :: u :: r, _ => exact ⟨x, y, z, u, r, rfl⟩
      clear hl
      obtain ⟨p1, b, off, ha, hbl, c0⟩ := hs.out.at_ 0 x rfl
      simp only at ha
      subst ha
      obtain ⟨p2, _, _, e1, _, c1⟩ := hs.out.at_ 1 y rfl
      cases e1
      obtain ⟨p3, _, _, e1, _, c2⟩ := hs.out.at_ 2 z rfl
      cases e1
      obtain ⟨p4, _, _, e1, _, c3⟩ := hs.out.at_ 3 u rfl
      cases e1
      have d0 := c0 0 _ rfl
      have d1 := c1 0 _ rfl
      have d2 := c2 0 _ rfl
      have d3 := c3 0 _ rfl
      simp only [Nat.mul_one, Nat.add_zero] at d0 d1 d2 d3
      haveI : InW b w := ⟨hbl⟩
      have x1 := p1.1
      have x2 := p1.2
      have y1 := p2.1
      have y2 := p2.2
      have z1 := p3.1
      have z2 := p3.2
      have u1 := p4.1
      have u2 := p4.2
      clear c0 c1 c2 c3 p1 p2 p3 p4
      go_enter Tryz.func225, Tryz.ntmps225
      go_wp2_with fail
      refine wp_region_ext (by kernel_rfl) (by kernel_rfl) ?_; (repeat (go_big_quiet_step (fail))); refine wpQuiet_nil ?_; intro xw
      go_wp2_with fail
      go_ret2
      exact ⟨tup2 (opN_int x1 x2 y1 y2 z1 z2 u1 u2) rfl, END⟩
  · have h1' : (f == 1) = false := by simp [h1]
    cases xs with
    | nil =>
      have he : opN f [] = (0, 0) := by unfold opN; rw [if_neg h1]
      rw [he]
      clear he
      go_enter Tryz.func225, Tryz.ntmps225
      go_wp2_with fail
      go_ret2
      exact ⟨rfl, END⟩
    | cons x r =>
      obtain ⟨p1, b, off, ha, hbl, c0⟩ := hs.out.at_ 0 x rfl
      simp only at ha
      subst ha
      have d0 := c0 0 _ rfl
      simp only [Nat.zero_mul, Nat.add_zero] at d0
      have x1 := p1.1
      have x2 := p1.2
      have he : Hid (opN f (x :: r) = (if f = 3 then sgn 256 x else x, 1)) := by
        have : opN f (x :: r) = (if f = 3 then sgn 256 x else x, 1) := by unfold opN; rw [if_neg h1]
        exact this
      clear c0 p1
      by_cases h3 : f = 3
      · subst h3
        go_enter Tryz.func225, Tryz.ntmps225
        go_wp2_with fail
        go_ret2
        exact ⟨tup2 (by rw [he.out]; simpa using w8_sgn x1 x2) (by rw [he.out]), END⟩
      · have h3' : (f == 3) = false := by simp [h3]
        have H3 := hid h3
        clear h3
        go_enter Tryz.func225, Tryz.ntmps225
        go_wp2_with fail
        go_ret2
        exact ⟨tup2 (by rw [he.out, if_neg H3.out]) (by rw [he.out]), END⟩
end Go.Proofs.YthagkijplklemaaGreatDoor
end
