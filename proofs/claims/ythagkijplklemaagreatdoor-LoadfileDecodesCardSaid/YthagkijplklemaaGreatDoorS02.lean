/- The cipher and the hash on lists of bytes. No program in sight. -/
import Derived.Test.YthagkijplklemaaGreatDoorS01
import Derived.Laws.BitsLemmas
import Derived.Laws.Closers25b
section
namespace Go.Sc
open Go.RowKit
def byt (x : Int) : Prop := 0 ≤ x ∧ x ≤ 255
def u32i (x : Int) : Prop := 0 ≤ x ∧ x < 4294967296
/-- Four bytes as a number. -/
def numL : List Int → Int
  | [a, b, c, d] => a * 16777216 + b * 65536 + c * 256 + d
  | _ => 0
theorem wrap32 (n : Int) (h0 : 0 ≤ n) (h1 : n < 2 ^ 32) : IntKind.u32.wrap n = n := by rw [IntKind.wrap_u32]; omega
theorem numL_or {a b c d : Int} (ha : byt a) (hb : byt b) (hc : byt c) (hd : byt d) :
    bits .or .u32 (bits .or .u32 (bits .or .u32 (a * 16777216) (b * 65536)) (c * 256)) d = numL [a, b, c, d] := by
  obtain ⟨a0, a1⟩ := ha
  obtain ⟨b0, b1⟩ := hb
  obtain ⟨c0, c1⟩ := hc
  obtain ⟨d0, d1⟩ := hd
  have e1 : bits .or .u32 (a * 16777216) (b * 65536) = a * 16777216 + b * 65536 := bits_join .u32 32 (by decide) wrap32 24 _ _ (by omega) (by omega) (by omega) (by omega) (by omega) (by omega)
  have e2 : bits .or .u32 (a * 16777216 + b * 65536) (c * 256) = a * 16777216 + b * 65536 + c * 256 := bits_join .u32 32 (by decide) wrap32 16 _ _ (by omega) (by omega) (by omega) (by omega) (by omega) (by omega)
  have e3 : bits .or .u32 (a * 16777216 + b * 65536 + c * 256) d = a * 16777216 + b * 65536 + c * 256 + d := bits_join .u32 32 (by decide) wrap32 8 _ _ (by omega) (by omega) (by omega) (by omega) (by omega) (by omega)
  rw [e1, e2, e3]
  rfl
theorem numL_ok {l : List Int} (h : ∀ x ∈ l, byt x) : u32i (numL l) := by
  unfold numL
  split
  · rename_i a b c d
    have h1 := h a (by simp)
    have h2 := h b (by simp)
    have h3 := h c (by simp)
    have h4 := h d (by simp)
    unfold byt at *
    unfold u32i
    omega
  · exact ⟨by omega, by omega⟩
/-- The function of the rounds. -/
def fT (x k : Int) : Int := (x + k) % 4294967296 * 2654435761 % 4294967296
def fF (x k : Int) : Int := bits .xor .u32 (fT x k) (fT x k / 32768) * 2246822519 % 4294967296
def rkF (key : List Int) (i : Nat) : Int := (numL ((key.drop (i % 4 * 4)).take 4) + (i : Int) * 2654435769 % 4294967296) % 4294967296
theorem rkF_ok (key : List Int) (i : Nat) : u32i (rkF key i) := ⟨Int.emod_nonneg _ (by omega), Int.emod_lt_of_pos _ (by omega)⟩
/-- The two halves after some rounds. -/
def runL (key : List Int) (a b : Int) : Nat → Int × Int
  | 0 => (a, b)
  | k + 1 => ((runL key a b k).2, bits .xor .u32 (runL key a b k).1 (fF (runL key a b k).2 (rkF key k)))
theorem xor_ok (x y : Int) : u32i (bits .xor .u32 x y) := by
  have h1 := bits_lo_u32 .xor x y
  have h2 := bits_hi_u32 .xor x y
  unfold u32i
  omega
theorem runL_ok {key : List Int} {a b : Int} (ha : u32i a) (hb : u32i b) : ∀ k, u32i (runL key a b k).1 ∧ u32i (runL key a b k).2
  | 0 => ⟨ha, hb⟩
  | k + 1 => ⟨(runL_ok ha hb k).2, xor_ok _ _⟩
def bytes4 (n : Int) : List Int := [n / 16777216 % 256, n / 65536 % 256, n / 256 % 256, n % 256]
theorem bytes4_byt (n : Int) : ∀ x ∈ bytes4 n, byt x := by
  intro x hx
  simp only [bytes4, List.mem_cons, List.not_mem_nil, or_false] at hx
  unfold byt
  omega
/-- A block under a key. -/
def encL (key block : List Int) : List Int :=
  bytes4 (runL key (numL (block.take 4)) (numL (block.drop 4)) 16).2 ++ bytes4 (runL key (numL (block.take 4)) (numL (block.drop 4)) 16).1
theorem encL_len (key block : List Int) : (encL key block).length = 8 := rfl
theorem encL_byt (key block : List Int) : ∀ x ∈ encL key block, byt x := by
  intro x hx
  rcases List.mem_append.1 hx with h | h
  · exact bytes4_byt _ x h
  · exact bytes4_byt _ x h
end Go.Sc
end
