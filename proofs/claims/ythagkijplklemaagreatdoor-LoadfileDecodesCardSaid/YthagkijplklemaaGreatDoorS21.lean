/- The cipher: number, f, the keys of the rounds. The cipher: the keys of the rounds. -/
import Derived.Test.YthagkijplklemaaGreatDoorS02
import Derived.Test.YthagkijplklemaaGreatDoorS16
import Derived.Test.YthagkijplklemaaGreatDoorS20
section
namespace Go.Proofs.YthagkijplklemaaGreatDoor
open Go.ChangeShapes Go.WideShapes Go.ChangeAt Go.RowKit Go.Sc
theorem ret_u32 {x y : Int} (h : x = y) : Ending.returned (.int .u32 x) = .returned (.int .u32 y) := by rw [h]
set_option maxRecDepth 20000 in
theorem cnum4 (a : Option Addr) (c : Nat) (x0 x1 x2 x3 : Int) (w : World) (hs : Hid (Bytes w ⟨a, c, [x0, x1, x2, x3]⟩)) : Gives Tryz.prog 222 #[.slice a 4 c] w (.int .u32 (numL [x0, x1, x2, x3])) := by
  have hle := hs.out.le
  have hmx := hs.out.max
  simp only [List.length_cons, List.length_nil] at hle hmx
  obtain ⟨⟨l0, u0⟩, b, off, hba, hbl, hc0⟩ := hs.out.at_ 0 x0 rfl
  simp only at hba
  subst hba
  have c0 := hc0 0 _ rfl
  obtain ⟨⟨l1, u1⟩, b1, off1, hba1, -, hc1⟩ := hs.out.at_ 1 x1 rfl
  cases hba1
  have c1 := hc1 0 _ rfl
  obtain ⟨⟨l2, u2⟩, b1, off1, hba1, -, hc2⟩ := hs.out.at_ 2 x2 rfl
  cases hba1
  have c2 := hc2 0 _ rfl
  obtain ⟨⟨l3, u3⟩, b1, off1, hba1, -, hc3⟩ := hs.out.at_ 3 x3 rfl
  cases hba1
  have c3 := hc3 0 _ rfl
  simp only [Nat.add_zero, Nat.mul_one] at c0 c1 c2 c3
  clear hc0 hc1 hc2 hc3
  haveI : InW b w := ⟨hbl⟩
  unfold Gives
  go_enter Tryz.func222, Tryz.ntmps222
  go_wp2_with fail
  refine wp_region_ext (by kernel_rfl) (by kernel_rfl) ?_; (repeat (go_big_quiet_step (fail))); refine wpQuiet_nil ?_; intro xw
  go_wp2_with fail
  go_ret
  exact ⟨ret_u32 (numL_or ⟨l0, u0⟩ ⟨l1, u1⟩ ⟨l2, u2⟩ ⟨l3, u3⟩), END⟩
theorem cnum_any (a : Option Addr) (c : Nat) (l : List Int) (hl : l.length = 4) (w : World) (hs : Hid (Bytes w ⟨a, c, l⟩)) : Gives Tryz.prog 222 #[.slice a 4 c] w (.int .u32 (numL l)) := by
  match l, hl with
  | [x0, x1, x2, x3], _ => exact cnum4 a c x0 x1 x2 x3 w hs
end Go.Proofs.YthagkijplklemaaGreatDoor
end

section
namespace Go.Sc
open Go.RowKit
/-- A block of cells that holds these values. -/
def Held (w : World) (b n : Nat) (f : Nat → Value) : Prop := b < w.heap.size ∧ ∀ j, j < n → w.cell? ⟨b, j, none⟩ = some (f j) ∧ w.frozen? ⟨b, j, none⟩ = false
theorem Held.new (w : World) (cs : Array Value) (t : TypeId) (n : Nat) (f : Nat → Value) (h : ∀ j, j < n → cs[j]? = some (f j)) : Held (w.alloc (.cells cs t)) w.heap.size n f :=
  ⟨by simp, fun j hj => ⟨(World.cell?_alloc_new _ _ _ _).trans (h j hj), World.frozen?_alloc_new _ _ _ _⟩⟩
theorem Held.new_at (w : World) (cs : Array Value) (t : TypeId) (b n : Nat) (f : Nat → Value) (hb : b = w.heap.size) (h : ∀ j, j < n → cs[j]? = some (f j)) : Held (w.alloc (.cells cs t)) b n f := hb ▸ Held.new w cs t n f h
theorem Held.below {w w' : World} {b n : Nat} {f : Nat → Value} (h : Held w b n f) (hb : Below w.heap.size w w') : Held w' b n f :=
  ⟨Nat.lt_of_lt_of_le h.1 hb.size, fun j hj => ⟨(hb.cell (p := ⟨b, j, none⟩) h.1).trans (h.2 j hj).1, (hb.frozen (p := ⟨b, j, none⟩) h.1).trans (h.2 j hj).2⟩⟩
theorem Held.alloc {w : World} {b n : Nat} {f : Nat → Value} (h : Held w b n f) (o : Obj) : Held (w.alloc o) b n f := h.below ((Below.refl _ _).alloc (Nat.le_refl _) o)
theorem Held.ext {w : World} {b n : Nat} {f : Nat → Value} (x : Ext w) (h : Held w b n f) : Held x.val b n f := h.below x.below
theorem Held.drew {w : World} {b n : Nat} {f : Nat → Value} (h : Held w b n f) : Held w.drew b n f := h.below (Below.refl _ _).drew
theorem Held.far {w : World} {b b' o n : Nat} {f : Nat → Value} {v : Value} (h : Held w b n f) (hb : b' ≠ b) : Held (w.setCell ⟨b', o, none⟩ v) b n f :=
  ⟨by simpa [World.setCell] using h.1, fun j hj => ⟨(World.cell?_of_block (w := w) (a := ⟨b, j, none⟩) (Below.heap_setCell _ _ _ _ (by simp only; omega))).trans (h.2 j hj).1, by simpa using (h.2 j hj).2⟩⟩
theorem Held.set {w : World} {b k n : Nat} {f g : Nat → Value} {v : Value} (h : Held w b n f) (hk : k < n) (hv : g k = v) (hg : ∀ j, j ≠ k → g j = f j) : Held (w.setCell ⟨b, k, none⟩ v) b n g :=
  ⟨by simpa [World.setCell] using h.1, fun j hj => by
    refine ⟨?_, by simpa using (h.2 j hj).2⟩
    by_cases e : j = k
    · subst e; rw [hv]; exact World.cell?_setCell_same _ _ _ (h.2 j hj).1
    · rw [hg j e]; exact (World.cell?_setCell_other _ _ _ _ (by simp only [ne_eq, Addr.mk.injEq, not_and]; omega)).trans (h.2 j hj).1⟩
theorem lt16 {j : Nat} (h : j < 16) : j = 0 ∨ j = 1 ∨ j = 2 ∨ j = 3 ∨ j = 4 ∨ j = 5 ∨ j = 6 ∨ j = 7 ∨ j = 8 ∨ j = 9 ∨ j = 10 ∨ j = 11 ∨ j = 12 ∨ j = 13 ∨ j = 14 ∨ j = 15 := by omega
end Go.Sc
namespace Go.Proofs.YthagkijplklemaaGreatDoor
open Go.ChangeShapes Go.WideShapes Go.ChangeAt Go.RowKit Go.Sc
abbrev rksV (xs : List Int) : Value := .agg #[.int .u32 (rkF xs 0), .int .u32 (rkF xs 1), .int .u32 (rkF xs 2), .int .u32 (rkF xs 3), .int .u32 (rkF xs 4), .int .u32 (rkF xs 5), .int .u32 (rkF xs 6), .int .u32 (rkF xs 7), .int .u32 (rkF xs 8), .int .u32 (rkF xs 9), .int .u32 (rkF xs 10), .int .u32 (rkF xs 11), .int .u32 (rkF xs 12), .int .u32 (rkF xs 13), .int .u32 (rkF xs 14), .int .u32 (rkF xs 15)]
def rkS (xs : List Int) (k j : Nat) : Value := .int .u32 (if j < k then rkF xs j else 0)
theorem rkS_ne (xs : List Int) (k j : Nat) (h : j ≠ k) : rkS xs (k + 1) j = rkS xs k j := by
  unfold rkS
  by_cases e : j < k
  · rw [if_pos e, if_pos (by omega)]
  · rw [if_neg e, if_neg (by omega)]
set_option maxRecDepth 20000 in
set_option maxHeartbeats 2000000 in
theorem rks_any (b off c : Nat) (xs : List Int) (hl : xs.length = 16) (w : World) (hs : Hid (Bytes w ⟨some ⟨b, off, none⟩, c, xs⟩)) : Gives Tryz.prog 220 #[.slice (some ⟨b, off, none⟩) 16 c] w (rksV xs) := by
  have hle := hs.out.le
  have hmx := hs.out.max
  simp only [hl] at hle hmx
  have hN : Hid (∀ (W : World) (k : Nat), Below w.heap.size w W → k ≤ 12 → Gives Tryz.prog 222 #[.slice (some ⟨b, off + k, none⟩) 4 (c - k)] W (.int .u32 (numL ((xs.drop k).take 4)))) := fun W k hb hk => by
    have h1 := bytes_drop (hs.out.mono hb) (k := k) (by omega)
    have h2 : Bytes W ⟨some ⟨b, off + k, none⟩, c - k, (xs.drop k).take 4⟩ := by
      simp only [Option.map_some, addr_add] at h1
      refine ⟨by simp; omega, h1.max, h1.nil, fun j x hx => h1.at_ j x ?_⟩
      simp only [List.getElem?_take] at hx
      split at hx
      · exact hx
      · cases hx
    exact cnum_any _ _ _ (by simp; omega) W (hid h2)
  unfold Gives
  go_enter Tryz.func220, Tryz.ntmps220
  go_wp2_with fail
  go_loopw [6] (fun i wr => ∃ k : Nat, k ≤ 16 ∧ i = .int .i64 k ∧ Below w.heap.size w wr ∧ Held wr w.heap.size 16 (fun _ => .int .u32 0) ∧ Held wr (w.heap.size + 1) 16 (rkS xs k)) (fun i _ => 16 - (intOf i).toNat)
  case atStart =>
    refine ⟨0, Nat.zero_le _, rfl, END, (Held.new _ _ _ _ _ ?_).alloc _, Held.new_at _ _ _ _ _ _ (by simp) ?_⟩
    · intro j hj
      rcases lt16 hj with rfl | rfl | rfl | rfl | rfl | rfl | rfl | rfl | rfl | rfl | rfl | rfl | rfl | rfl | rfl | rfl
      all_goals rfl
    · intro j hj
      rcases lt16 hj with rfl | rfl | rfl | rfl | rfl | rfl | rfl | rfl | rfl | rfl | rfl | rfl | rfl | rfl | rfl | rfl
      all_goals rfl
  case round =>
    obtain ⟨k, hk, rfl, hb, h0, h1⟩ := hrel
    have HB := hid hb
    have H0 := hid h0
    have H1 := hid h1
    clear hb h0 h1
    have hsz := H1.out.1
    haveI : InW w.heap.size wr := ⟨by omega⟩
    haveI : InW (w.heap.size + 1) wr := ⟨by omega⟩
    have hn1 : ¬ w.heap.size = w.heap.size + 1 := by omega
    obtain hlt | rfl : k < 16 ∨ k = 16 := by omega
    · have hf := (H1.out.2 k hlt).2
      have hc := (H1.out.2 k hlt).1
      rcases lt16 hlt with rfl | rfl | rfl | rfl | rfl | rfl | rfl | rfl | rfl | rfl | rfl | rfl | rfl | rfl | rfl | rfl
      · go_wp2_with (go_at_call 222; refine (hN.out _ 0 ENDX (by omega)).go.mono ?_; rintro e w' ⟨rfl, x, rfl⟩)
        exact ⟨⟨1, by omega, rfl, ENDX, (H0.out.ext x).far (by omega), (H1.out.ext x).set (by omega) (by simp [rkS, rkF]) (rkS_ne xs 0)⟩, by simp [intOf]⟩
      · go_wp2_with (go_at_call 222; refine (hN.out _ 4 ENDX (by omega)).go.mono ?_; rintro e w' ⟨rfl, x, rfl⟩)
        exact ⟨⟨2, by omega, rfl, ENDX, (H0.out.ext x).far (by omega), (H1.out.ext x).set (by omega) (by simp [rkS, rkF]) (rkS_ne xs 1)⟩, by simp [intOf]⟩
      · go_wp2_with (go_at_call 222; refine (hN.out _ 8 ENDX (by omega)).go.mono ?_; rintro e w' ⟨rfl, x, rfl⟩)
        exact ⟨⟨3, by omega, rfl, ENDX, (H0.out.ext x).far (by omega), (H1.out.ext x).set (by omega) (by simp [rkS, rkF]) (rkS_ne xs 2)⟩, by simp [intOf]⟩
      · go_wp2_with (go_at_call 222; refine (hN.out _ 12 ENDX (by omega)).go.mono ?_; rintro e w' ⟨rfl, x, rfl⟩)
        exact ⟨⟨4, by omega, rfl, ENDX, (H0.out.ext x).far (by omega), (H1.out.ext x).set (by omega) (by simp [rkS, rkF]) (rkS_ne xs 3)⟩, by simp [intOf]⟩
      · go_wp2_with (go_at_call 222; refine (hN.out _ 0 ENDX (by omega)).go.mono ?_; rintro e w' ⟨rfl, x, rfl⟩)
        exact ⟨⟨5, by omega, rfl, ENDX, (H0.out.ext x).far (by omega), (H1.out.ext x).set (by omega) (by simp [rkS, rkF]) (rkS_ne xs 4)⟩, by simp [intOf]⟩
      · go_wp2_with (go_at_call 222; refine (hN.out _ 4 ENDX (by omega)).go.mono ?_; rintro e w' ⟨rfl, x, rfl⟩)
        exact ⟨⟨6, by omega, rfl, ENDX, (H0.out.ext x).far (by omega), (H1.out.ext x).set (by omega) (by simp [rkS, rkF]) (rkS_ne xs 5)⟩, by simp [intOf]⟩
      · go_wp2_with (go_at_call 222; refine (hN.out _ 8 ENDX (by omega)).go.mono ?_; rintro e w' ⟨rfl, x, rfl⟩)
        exact ⟨⟨7, by omega, rfl, ENDX, (H0.out.ext x).far (by omega), (H1.out.ext x).set (by omega) (by simp [rkS, rkF]) (rkS_ne xs 6)⟩, by simp [intOf]⟩
      · go_wp2_with (go_at_call 222; refine (hN.out _ 12 ENDX (by omega)).go.mono ?_; rintro e w' ⟨rfl, x, rfl⟩)
        exact ⟨⟨8, by omega, rfl, ENDX, (H0.out.ext x).far (by omega), (H1.out.ext x).set (by omega) (by simp [rkS, rkF]) (rkS_ne xs 7)⟩, by simp [intOf]⟩
      · go_wp2_with (go_at_call 222; refine (hN.out _ 0 ENDX (by omega)).go.mono ?_; rintro e w' ⟨rfl, x, rfl⟩)
        exact ⟨⟨9, by omega, rfl, ENDX, (H0.out.ext x).far (by omega), (H1.out.ext x).set (by omega) (by simp [rkS, rkF]) (rkS_ne xs 8)⟩, by simp [intOf]⟩
      · go_wp2_with (go_at_call 222; refine (hN.out _ 4 ENDX (by omega)).go.mono ?_; rintro e w' ⟨rfl, x, rfl⟩)
        exact ⟨⟨10, by omega, rfl, ENDX, (H0.out.ext x).far (by omega), (H1.out.ext x).set (by omega) (by simp [rkS, rkF]) (rkS_ne xs 9)⟩, by simp [intOf]⟩
      · go_wp2_with (go_at_call 222; refine (hN.out _ 8 ENDX (by omega)).go.mono ?_; rintro e w' ⟨rfl, x, rfl⟩)
        exact ⟨⟨11, by omega, rfl, ENDX, (H0.out.ext x).far (by omega), (H1.out.ext x).set (by omega) (by simp [rkS, rkF]) (rkS_ne xs 10)⟩, by simp [intOf]⟩
      · go_wp2_with (go_at_call 222; refine (hN.out _ 12 ENDX (by omega)).go.mono ?_; rintro e w' ⟨rfl, x, rfl⟩)
        exact ⟨⟨12, by omega, rfl, ENDX, (H0.out.ext x).far (by omega), (H1.out.ext x).set (by omega) (by simp [rkS, rkF]) (rkS_ne xs 11)⟩, by simp [intOf]⟩
      · go_wp2_with (go_at_call 222; refine (hN.out _ 0 ENDX (by omega)).go.mono ?_; rintro e w' ⟨rfl, x, rfl⟩)
        exact ⟨⟨13, by omega, rfl, ENDX, (H0.out.ext x).far (by omega), (H1.out.ext x).set (by omega) (by simp [rkS, rkF]) (rkS_ne xs 12)⟩, by simp [intOf]⟩
      · go_wp2_with (go_at_call 222; refine (hN.out _ 4 ENDX (by omega)).go.mono ?_; rintro e w' ⟨rfl, x, rfl⟩)
        exact ⟨⟨14, by omega, rfl, ENDX, (H0.out.ext x).far (by omega), (H1.out.ext x).set (by omega) (by simp [rkS, rkF]) (rkS_ne xs 13)⟩, by simp [intOf]⟩
      · go_wp2_with (go_at_call 222; refine (hN.out _ 8 ENDX (by omega)).go.mono ?_; rintro e w' ⟨rfl, x, rfl⟩)
        exact ⟨⟨15, by omega, rfl, ENDX, (H0.out.ext x).far (by omega), (H1.out.ext x).set (by omega) (by simp [rkS, rkF]) (rkS_ne xs 14)⟩, by simp [intOf]⟩
      · go_wp2_with (go_at_call 222; refine (hN.out _ 12 ENDX (by omega)).go.mono ?_; rintro e w' ⟨rfl, x, rfl⟩)
        exact ⟨⟨16, by omega, rfl, ENDX, (H0.out.ext x).far (by omega), (H1.out.ext x).set (by omega) (by simp [rkS, rkF]) (rkS_ne xs 15)⟩, by simp [intOf]⟩
    · have a0 : wr.cell? ⟨w.heap.size, 0, none⟩ = some (.int .u32 0) := (H0.out.2 0 (by omega)).1
      have b0 := (H0.out.2 0 (by omega)).2
      have c0 : wr.cell? ⟨w.heap.size + 1, 0, none⟩ = some (.int .u32 (rkF xs 0)) := (H1.out.2 0 (by omega)).1
      have a1 : wr.cell? ⟨w.heap.size, 1, none⟩ = some (.int .u32 0) := (H0.out.2 1 (by omega)).1
      have b1 := (H0.out.2 1 (by omega)).2
      have c1 : wr.cell? ⟨w.heap.size + 1, 1, none⟩ = some (.int .u32 (rkF xs 1)) := (H1.out.2 1 (by omega)).1
      have a2 : wr.cell? ⟨w.heap.size, 2, none⟩ = some (.int .u32 0) := (H0.out.2 2 (by omega)).1
      have b2 := (H0.out.2 2 (by omega)).2
      have c2 : wr.cell? ⟨w.heap.size + 1, 2, none⟩ = some (.int .u32 (rkF xs 2)) := (H1.out.2 2 (by omega)).1
      have a3 : wr.cell? ⟨w.heap.size, 3, none⟩ = some (.int .u32 0) := (H0.out.2 3 (by omega)).1
      have b3 := (H0.out.2 3 (by omega)).2
      have c3 : wr.cell? ⟨w.heap.size + 1, 3, none⟩ = some (.int .u32 (rkF xs 3)) := (H1.out.2 3 (by omega)).1
      have a4 : wr.cell? ⟨w.heap.size, 4, none⟩ = some (.int .u32 0) := (H0.out.2 4 (by omega)).1
      have b4 := (H0.out.2 4 (by omega)).2
      have c4 : wr.cell? ⟨w.heap.size + 1, 4, none⟩ = some (.int .u32 (rkF xs 4)) := (H1.out.2 4 (by omega)).1
      have a5 : wr.cell? ⟨w.heap.size, 5, none⟩ = some (.int .u32 0) := (H0.out.2 5 (by omega)).1
      have b5 := (H0.out.2 5 (by omega)).2
      have c5 : wr.cell? ⟨w.heap.size + 1, 5, none⟩ = some (.int .u32 (rkF xs 5)) := (H1.out.2 5 (by omega)).1
      have a6 : wr.cell? ⟨w.heap.size, 6, none⟩ = some (.int .u32 0) := (H0.out.2 6 (by omega)).1
      have b6 := (H0.out.2 6 (by omega)).2
      have c6 : wr.cell? ⟨w.heap.size + 1, 6, none⟩ = some (.int .u32 (rkF xs 6)) := (H1.out.2 6 (by omega)).1
      have a7 : wr.cell? ⟨w.heap.size, 7, none⟩ = some (.int .u32 0) := (H0.out.2 7 (by omega)).1
      have b7 := (H0.out.2 7 (by omega)).2
      have c7 : wr.cell? ⟨w.heap.size + 1, 7, none⟩ = some (.int .u32 (rkF xs 7)) := (H1.out.2 7 (by omega)).1
      have a8 : wr.cell? ⟨w.heap.size, 8, none⟩ = some (.int .u32 0) := (H0.out.2 8 (by omega)).1
      have b8 := (H0.out.2 8 (by omega)).2
      have c8 : wr.cell? ⟨w.heap.size + 1, 8, none⟩ = some (.int .u32 (rkF xs 8)) := (H1.out.2 8 (by omega)).1
      have a9 : wr.cell? ⟨w.heap.size, 9, none⟩ = some (.int .u32 0) := (H0.out.2 9 (by omega)).1
      have b9 := (H0.out.2 9 (by omega)).2
      have c9 : wr.cell? ⟨w.heap.size + 1, 9, none⟩ = some (.int .u32 (rkF xs 9)) := (H1.out.2 9 (by omega)).1
      have a10 : wr.cell? ⟨w.heap.size, 10, none⟩ = some (.int .u32 0) := (H0.out.2 10 (by omega)).1
      have b10 := (H0.out.2 10 (by omega)).2
      have c10 : wr.cell? ⟨w.heap.size + 1, 10, none⟩ = some (.int .u32 (rkF xs 10)) := (H1.out.2 10 (by omega)).1
      have a11 : wr.cell? ⟨w.heap.size, 11, none⟩ = some (.int .u32 0) := (H0.out.2 11 (by omega)).1
      have b11 := (H0.out.2 11 (by omega)).2
      have c11 : wr.cell? ⟨w.heap.size + 1, 11, none⟩ = some (.int .u32 (rkF xs 11)) := (H1.out.2 11 (by omega)).1
      have a12 : wr.cell? ⟨w.heap.size, 12, none⟩ = some (.int .u32 0) := (H0.out.2 12 (by omega)).1
      have b12 := (H0.out.2 12 (by omega)).2
      have c12 : wr.cell? ⟨w.heap.size + 1, 12, none⟩ = some (.int .u32 (rkF xs 12)) := (H1.out.2 12 (by omega)).1
      have a13 : wr.cell? ⟨w.heap.size, 13, none⟩ = some (.int .u32 0) := (H0.out.2 13 (by omega)).1
      have b13 := (H0.out.2 13 (by omega)).2
      have c13 : wr.cell? ⟨w.heap.size + 1, 13, none⟩ = some (.int .u32 (rkF xs 13)) := (H1.out.2 13 (by omega)).1
      have a14 : wr.cell? ⟨w.heap.size, 14, none⟩ = some (.int .u32 0) := (H0.out.2 14 (by omega)).1
      have b14 := (H0.out.2 14 (by omega)).2
      have c14 : wr.cell? ⟨w.heap.size + 1, 14, none⟩ = some (.int .u32 (rkF xs 14)) := (H1.out.2 14 (by omega)).1
      have a15 : wr.cell? ⟨w.heap.size, 15, none⟩ = some (.int .u32 0) := (H0.out.2 15 (by omega)).1
      have b15 := (H0.out.2 15 (by omega)).2
      have c15 : wr.cell? ⟨w.heap.size + 1, 15, none⟩ = some (.int .u32 (rkF xs 15)) := (H1.out.2 15 (by omega)).1
      go_wp2_with fail
      refine bodyPost_ret (by simp [results, Tryz.results220, go_sem, a0, a1, a2, a3, a4, a5, a6, a7, a8, a9, a10, a11, a12, a13, a14, a15]; try rfl) rfl ?_
      exact ⟨rfl, ENDX⟩
end Go.Proofs.YthagkijplklemaaGreatDoor
end
