/- The program's writer: ref, typ. The program's writer: lists. The program's writer: number, flag, aid. The program's writer: an implementation. The program's writer: a class. The program's writer: wide. -/
import Derived.Test.YthagkijplklemaaGreatDoorM04
import Derived.Deep.RegionHeld3
import Derived.BigGuardPart
section
namespace Go.Proofs.YthagkijplklemaaGreatDoor
open Go.ChangeShapes Go.WideShapes Go.ChangeAt Go.RowKit Go.Sc
instance : NeT 3 5 := ⟨by decide⟩
instance : NeT 44 5 := ⟨by decide⟩
instance : NeT 51 5 := ⟨by decide⟩
theorem put1 (B p b : Nat) (x : Int) (w : World) (bs : List Int) (hk : Kp 5 B p b w) (h0 : w.cell? ⟨b, 0, none⟩ = some (.int .i64 x)) (hw : Wr 5 B p w bs) (hl : bs.length + 1 ≤ 1099511627776) :
    Puts 5 Tryz.prog 120 #[.pointer (some ⟨p, 0, none⟩), .slice (some ⟨b, 0, none⟩) 1 1] B p w bs [x % 256] :=
  put_any B p b [x] w bs hk (fun j y hj => by
    match j, hj with
    | 0, hj => simp at hj; subst hj; exact h0) hw hl
theorem put2 (B p b : Nat) (x y : Int) (w : World) (bs : List Int) (hk : Kp 5 B p b w) (h0 : w.cell? ⟨b, 0, none⟩ = some (.int .i64 x)) (h1 : w.cell? ⟨b, 1, none⟩ = some (.int .i64 y)) (hw : Wr 5 B p w bs) (hl : bs.length + 2 ≤ 1099511627776) :
    Puts 5 Tryz.prog 120 #[.pointer (some ⟨p, 0, none⟩), .slice (some ⟨b, 0, none⟩) 2 2] B p w bs [x % 256, y % 256] :=
  put_any B p b [x, y] w bs hk (fun j z hj => by
    match j, hj with
    | 0, hj => simp at hj; subst hj; exact h0
    | 1, hj => simp at hj; subst hj; exact h1) hw hl
set_option maxHeartbeats 1000000 in
theorem ref_any (B p : Nat) (r : Rf) (w : World) (bs : List Int) (hw : Hid (Wr 5 B p w bs)) (hl : bs.length + 2 ≤ 1099511627776) :
    Puts 5 Tryz.prog 182 #[.pointer (some ⟨p, 0, none⟩), r.v] B p w bs [r.p % 256, r.c % 256] := by
  unfold Puts
  haveI : InW p w := ⟨hw.out.lt⟩
  go_enter Tryz.func182, Tryz.ntmps182
  go_wp2_with fail
  go_region_held3 (fun w' => w'.cell? ⟨w.heap.size, 0, none⟩ = some (.int .i64 r.p) ∧ w'.cell? ⟨w.heap.size, 1, none⟩ = some (.int .i64 r.c)) (first | (go_keep) | (constructor <;> simp [Wx.cell, alloc_cell_in])) (first | (go_at_call 120; refine (put2 B p _ (r.p) (r.c) _ (bs) inferInstance (by simp) (by simp) (by with_reducible repeat' (first | exact Hid.out (by assumption) | refine Wr.alloc ?_ _ | refine Wr.ext _ ?_ | refine Wr.drew ?_)) (hl)).go.mono ?_; rintro e w' ⟨rfl, y, rfl, hy⟩))
  go_end0
  exact ⟨rfl, (by with_reducible repeat' (first | exact Fr.refl | exact Hid.out (by assumption) | refine Fr.alloc ?_ _ | refine fr_ext _ ?_ | refine fr_wx _ ?_ | refine Fr.drew ?_)), hy⟩
def typB (t : Ty) : List Int := (t.k % 256) :: if t.k = 5 then [t.c.p % 256, t.c.c % 256] else []
set_option maxHeartbeats 1000000 in
theorem typ_any (B p : Nat) (t : Ty) (w : World) (bs : List Int) (hw : Hid (Wr 5 B p w bs)) (hl : bs.length + (typB t).length ≤ 1099511627776) :
    Puts 5 Tryz.prog 129 #[.pointer (some ⟨p, 0, none⟩), t.v] B p w bs (typB t) := by
  unfold Puts
  haveI : InW p w := ⟨hw.out.lt⟩
  have hl1 : bs.length + 1 ≤ 1099511627776 := by simp [typB] at hl; omega
  have hl2 : t.k = 5 → bs.length + 3 ≤ 1099511627776 := fun h => by simp [typB, h] at hl; omega
  have HL2 := hid hl2
  clear hl hl2
  go_enter Tryz.func129, Tryz.ntmps129
  go_wp2_with fail
  go_region_held3 (fun w' => w'.cell? ⟨w.heap.size, 0, none⟩ = some (.int .i64 t.k) ∧ w'.cell? ⟨w.heap.size, 1, none⟩ = some (.int .i64 t.c.p) ∧ w'.cell? ⟨w.heap.size, 2, none⟩ = some (.int .i64 t.c.c)) (first | (go_keep) | (refine ⟨?_, ?_, ?_⟩ <;> simp [Wx.cell, alloc_cell_in])) (first | (go_at_call 120; refine (put1 B p _ (t.k) _ (bs) inferInstance (by simp) (by with_reducible repeat' (first | exact Hid.out (by assumption) | refine Wr.alloc ?_ _ | refine Wr.ext _ ?_ | refine Wr.drew ?_)) (hl1)).go.mono ?_; rintro e w' ⟨rfl, y, rfl, hy⟩))
  have hw2 := hid hy
  go_wp2_with (go_at_call 182; refine (ref_any B p t.c _ (bs ++ [t.k % 256]) hw2 (by have := HL2.out (by first | assumption | simp_all); simp; omega)).go.mono ?_; rintro e w' ⟨rfl, y2, rfl, hy2⟩)
  all_goals
    go_end0
    first
      | exact ⟨rfl, (by with_reducible repeat' (first | exact Fr.refl | exact Hid.out (by assumption) | refine Fr.alloc ?_ _ | refine fr_ext _ ?_ | refine fr_wx _ ?_ | refine Fr.drew ?_)), hy2.eq (by unfold typB; simp_all)⟩
      | exact ⟨rfl, (by with_reducible repeat' (first | exact Fr.refl | exact Hid.out (by assumption) | refine Fr.alloc ?_ _ | refine fr_ext _ ?_ | refine fr_wx _ ?_ | refine Fr.drew ?_)), hy.eq (by unfold typB; simp_all)⟩
end Go.Proofs.YthagkijplklemaaGreatDoor
end

section
namespace Go.Proofs.YthagkijplklemaaGreatDoor
open Go.ChangeShapes Go.WideShapes Go.ChangeAt Go.RowKit Go.Sc
set_option maxHeartbeats 1000000 in
set_option maxRecDepth 20000 in
theorem each_rf (B p : Nat) (s : Sl Rf) (F : Rf → List Int)  (w0 w : World) (bs : List Int) (hB : B = w0.heap.size) (hs : Hid (s.Ok eRf 2 w0)) (hd : Hid (Below B w0 w)) (hw : Hid (Wr 5 B p w bs))
    (hl : bs.length + 1 + (s.xs.flatMap F).length ≤ 1099511627776)
    (hf : Hid (∀ (x : Rf) (W : World) (cs : List Int), x ∈ s.xs → Fr 5 B p w W → Wr 5 B p W cs → cs.length + (F x).length ≤ 1099511627776 → Puts 5 Tryz.prog 182 #[.pointer (some ⟨p, 0, none⟩), x.v] B p W cs (F x))) :
    Puts 5 Tryz.prog 183 #[.pointer (some ⟨p, 0, none⟩), s.v, .func (.func 182) #[.pointer (some ⟨p, 0, none⟩)] #[]] B p w bs (((s.xs.length : Int) % 256) :: s.xs.flatMap F) := by
  obtain ⟨a, c, xs⟩ := s
  have hle := hs.out.le
  have hmx := hs.out.max
  simp only at hle hmx hl
  show Puts _ _ _ #[_, .slice a xs.length c, .func (.func 182) _ _] _ _ _ _ _
  unfold Puts
  haveI : InW p w := ⟨hw.out.lt⟩
  have hBp := hw.out.le
  have hpw := hw.out.lt
  go_enter Tryz.func183, Tryz.ntmps183
  go_wp2_with ((go_at_call 120; refine (put1 B p _ ((xs.length : Int)) _ (bs) inferInstance (by simp) (by with_reducible repeat' (first | exact Hid.out (by assumption) | refine Wr.alloc ?_ _ | refine Wr.ext _ ?_ | refine Wr.drew ?_)) (by omega)).go.mono ?_; rintro e w' ⟨rfl, y, rfl, hy⟩))
  go_loopw [17] (fun i wr => ∃ k : Nat, k ≤ xs.length ∧ i = .int .i64 k ∧ Fr 5 B p w wr ∧ Wr 5 B p wr (bs ++ [(xs.length : Int) % 256] ++ (xs.take k).flatMap F)) (fun i _ => xs.length - (intOf i).toNat)
  case atStart => exact ⟨0, Nat.zero_le _, rfl, (by with_reducible repeat' (first | exact Fr.refl | exact Hid.out (by assumption) | refine Fr.alloc ?_ _ | refine fr_ext _ ?_ | refine fr_wx _ ?_ | refine Fr.drew ?_)), by simpa using hy⟩
  case round =>
    obtain ⟨k, hk, rfl, hfr, hwr⟩ := hrel
    clear hy
    by_cases hlt : k < xs.length
    · obtain ⟨y, hy⟩ := getElem?_of_lt hlt
      obtain ⟨hok, b, off, hba, hbl, hc⟩ := hs.out.at_ k y hy
      simp only at hba
      subst hba
      have hbw : Below B w0 wr := hd.out.trans (hfr.below hBp (by omega))
      have hc' : ∀ (j : Nat) (v : Value), (El.cells eRf y)[j]? = some v → wr.cell? ⟨b, off + k * 2 + j, none⟩ = some v := fun j v hv => (hbw.cell (p := ⟨b, _, none⟩) (by rw [hB]; exact hbl)).trans (hc j v hv)
      have h0 := hc' 0 _ rfl; have h1 := hc' 1 _ rfl; simp only [Nat.add_zero] at h0
      have hsp : xs.take (k + 1) = xs.take k ++ [y] := by rw [List.take_add_one, hy]; rfl
      have hlen : ((xs.take k).flatMap F).length + (F y).length ≤ (xs.flatMap F).length := by
        have e : xs.flatMap F = (xs.take (k + 1)).flatMap F ++ (xs.drop (k + 1)).flatMap F := by rw [← List.flatMap_append, List.take_append_drop]
        rw [e, hsp, List.flatMap_append]
        simp
      have hlen2 : (bs ++ [(xs.length : Int) % 256] ++ (xs.take k).flatMap F).length + (F y).length ≤ 1099511627776 := by
        simp only [List.length_append, List.length_singleton]; omega
      have hmem : y ∈ xs := List.mem_of_getElem? hy
      have HW := hid hwr
      have HL := hid hlen2
      have HF := hid hfr
      have HS := hid hsp
      have HM := hid hmem
      clear hc hc' hok hy hbl hfr hwr hsp hlen hlen2 hmem hbw
      have hk1 : (0 : Int) ≤ (k : Int) := by omega
      have hk2 : (k : Int) < (xs.length : Int) := by omega
      go_wp2_with (go_at_call 182; refine (hf.out y _ (bs ++ [(xs.length : Int) % 256] ++ (xs.take k).flatMap F) HM.out (by with_reducible repeat' (first | exact Fr.refl | exact Hid.out (by assumption) | refine Fr.alloc ?_ _ | refine fr_ext _ ?_ | refine fr_wx _ ?_ | refine Fr.drew ?_)) (by with_reducible repeat' (first | exact Hid.out (by assumption) | refine Wr.alloc ?_ _ | refine Wr.ext _ ?_ | refine Wr.drew ?_)) HL.out).go.mono ?_; rintro e w' ⟨rfl, z, rfl, hz⟩)
      go_roundw
      case rel => exact ⟨k + 1, by omega, by go_num, (by with_reducible repeat' (first | exact Fr.refl | exact Hid.out (by assumption) | refine Fr.alloc ?_ _ | refine fr_ext _ ?_ | refine fr_wx _ ?_ | refine Fr.drew ?_)), hz.eq (by rw [HS.out, List.flatMap_append]; simp)⟩
      case measure => simp [intOf]; omega
    · go_wp2_with fail
      go_end0
      obtain rfl : k = xs.length := by omega
      exact ⟨rfl, hfr, hwr.eq (by simp)⟩
set_option maxHeartbeats 1000000 in
set_option maxRecDepth 20000 in
theorem each_ty (B p : Nat) (s : Sl Ty) (F : Ty → List Int)  (w0 w : World) (bs : List Int) (hB : B = w0.heap.size) (hs : Hid (s.Ok eTy 3 w0)) (hd : Hid (Below B w0 w)) (hw : Hid (Wr 5 B p w bs))
    (hl : bs.length + 1 + (s.xs.flatMap F).length ≤ 1099511627776)
    (hf : Hid (∀ (x : Ty) (W : World) (cs : List Int), x ∈ s.xs → Fr 5 B p w W → Wr 5 B p W cs → cs.length + (F x).length ≤ 1099511627776 → Puts 5 Tryz.prog 129 #[.pointer (some ⟨p, 0, none⟩), x.v] B p W cs (F x))) :
    Puts 5 Tryz.prog 128 #[.pointer (some ⟨p, 0, none⟩), s.v, .func (.func 129) #[.pointer (some ⟨p, 0, none⟩)] #[]] B p w bs (((s.xs.length : Int) % 256) :: s.xs.flatMap F) := by
  obtain ⟨a, c, xs⟩ := s
  have hle := hs.out.le
  have hmx := hs.out.max
  simp only at hle hmx hl
  show Puts _ _ _ #[_, .slice a xs.length c, .func (.func 129) _ _] _ _ _ _ _
  unfold Puts
  haveI : InW p w := ⟨hw.out.lt⟩
  have hBp := hw.out.le
  have hpw := hw.out.lt
  go_enter Tryz.func128, Tryz.ntmps128
  go_wp2_with ((go_at_call 120; refine (put1 B p _ ((xs.length : Int)) _ (bs) inferInstance (by simp) (by with_reducible repeat' (first | exact Hid.out (by assumption) | refine Wr.alloc ?_ _ | refine Wr.ext _ ?_ | refine Wr.drew ?_)) (by omega)).go.mono ?_; rintro e w' ⟨rfl, y, rfl, hy⟩))
  go_loopw [17] (fun i wr => ∃ k : Nat, k ≤ xs.length ∧ i = .int .i64 k ∧ Fr 5 B p w wr ∧ Wr 5 B p wr (bs ++ [(xs.length : Int) % 256] ++ (xs.take k).flatMap F)) (fun i _ => xs.length - (intOf i).toNat)
  case atStart => exact ⟨0, Nat.zero_le _, rfl, (by with_reducible repeat' (first | exact Fr.refl | exact Hid.out (by assumption) | refine Fr.alloc ?_ _ | refine fr_ext _ ?_ | refine fr_wx _ ?_ | refine Fr.drew ?_)), by simpa using hy⟩
  case round =>
    obtain ⟨k, hk, rfl, hfr, hwr⟩ := hrel
    clear hy
    by_cases hlt : k < xs.length
    · obtain ⟨y, hy⟩ := getElem?_of_lt hlt
      obtain ⟨hok, b, off, hba, hbl, hc⟩ := hs.out.at_ k y hy
      simp only at hba
      subst hba
      have hbw : Below B w0 wr := hd.out.trans (hfr.below hBp (by omega))
      have hc' : ∀ (j : Nat) (v : Value), (El.cells eTy y)[j]? = some v → wr.cell? ⟨b, off + k * 3 + j, none⟩ = some v := fun j v hv => (hbw.cell (p := ⟨b, _, none⟩) (by rw [hB]; exact hbl)).trans (hc j v hv)
      have h0 := hc' 0 _ rfl; have h1 := hc' 1 _ rfl; have h2 := hc' 2 _ rfl; simp only [Nat.add_zero] at h0
      have hsp : xs.take (k + 1) = xs.take k ++ [y] := by rw [List.take_add_one, hy]; rfl
      have hlen : ((xs.take k).flatMap F).length + (F y).length ≤ (xs.flatMap F).length := by
        have e : xs.flatMap F = (xs.take (k + 1)).flatMap F ++ (xs.drop (k + 1)).flatMap F := by rw [← List.flatMap_append, List.take_append_drop]
        rw [e, hsp, List.flatMap_append]
        simp
      have hlen2 : (bs ++ [(xs.length : Int) % 256] ++ (xs.take k).flatMap F).length + (F y).length ≤ 1099511627776 := by
        simp only [List.length_append, List.length_singleton]; omega
      have hmem : y ∈ xs := List.mem_of_getElem? hy
      have HW := hid hwr
      have HL := hid hlen2
      have HF := hid hfr
      have HS := hid hsp
      have HM := hid hmem
      clear hc hc' hok hy hbl hfr hwr hsp hlen hlen2 hmem hbw
      have hk1 : (0 : Int) ≤ (k : Int) := by omega
      have hk2 : (k : Int) < (xs.length : Int) := by omega
      go_wp2_with (go_at_call 129; refine (hf.out y _ (bs ++ [(xs.length : Int) % 256] ++ (xs.take k).flatMap F) HM.out (by with_reducible repeat' (first | exact Fr.refl | exact Hid.out (by assumption) | refine Fr.alloc ?_ _ | refine fr_ext _ ?_ | refine fr_wx _ ?_ | refine Fr.drew ?_)) (by with_reducible repeat' (first | exact Hid.out (by assumption) | refine Wr.alloc ?_ _ | refine Wr.ext _ ?_ | refine Wr.drew ?_)) HL.out).go.mono ?_; rintro e w' ⟨rfl, z, rfl, hz⟩)
      go_roundw
      case rel => exact ⟨k + 1, by omega, by go_num, (by with_reducible repeat' (first | exact Fr.refl | exact Hid.out (by assumption) | refine Fr.alloc ?_ _ | refine fr_ext _ ?_ | refine fr_wx _ ?_ | refine Fr.drew ?_)), hz.eq (by rw [HS.out, List.flatMap_append]; simp)⟩
      case measure => simp [intOf]; omega
    · go_wp2_with fail
      go_end0
      obtain rfl : k = xs.length := by omega
      exact ⟨rfl, hfr, hwr.eq (by simp)⟩
set_option maxHeartbeats 1000000 in
set_option maxRecDepth 20000 in
theorem each_int (B p : Nat) (s : Sl Int) (F : Int → List Int)  (w0 w : World) (bs : List Int) (hB : B = w0.heap.size) (hs : Hid (s.Ok eInt 1 w0)) (hd : Hid (Below B w0 w)) (hw : Hid (Wr 5 B p w bs))
    (hl : bs.length + 1 + (s.xs.flatMap F).length ≤ 1099511627776)
    (hf : Hid (∀ (x : Int) (W : World) (cs : List Int), x ∈ s.xs → Fr 5 B p w W → Wr 5 B p W cs → cs.length + (F x).length ≤ 1099511627776 → Puts 5 Tryz.prog 185 #[.pointer (some ⟨p, 0, none⟩), .int .i64 x] B p W cs (F x))) :
    Puts 5 Tryz.prog 184 #[.pointer (some ⟨p, 0, none⟩), s.v, .func (.func 185) #[.pointer (some ⟨p, 0, none⟩)] #[]] B p w bs (((s.xs.length : Int) % 256) :: s.xs.flatMap F) := by
  obtain ⟨a, c, xs⟩ := s
  have hle := hs.out.le
  have hmx := hs.out.max
  simp only at hle hmx hl
  show Puts _ _ _ #[_, .slice a xs.length c, .func (.func 185) _ _] _ _ _ _ _
  unfold Puts
  haveI : InW p w := ⟨hw.out.lt⟩
  have hBp := hw.out.le
  have hpw := hw.out.lt
  go_enter Tryz.func184, Tryz.ntmps184
  go_wp2_with ((go_at_call 120; refine (put1 B p _ ((xs.length : Int)) _ (bs) inferInstance (by simp) (by with_reducible repeat' (first | exact Hid.out (by assumption) | refine Wr.alloc ?_ _ | refine Wr.ext _ ?_ | refine Wr.drew ?_)) (by omega)).go.mono ?_; rintro e w' ⟨rfl, y, rfl, hy⟩))
  go_loopw [17] (fun i wr => ∃ k : Nat, k ≤ xs.length ∧ i = .int .i64 k ∧ Fr 5 B p w wr ∧ Wr 5 B p wr (bs ++ [(xs.length : Int) % 256] ++ (xs.take k).flatMap F)) (fun i _ => xs.length - (intOf i).toNat)
  case atStart => exact ⟨0, Nat.zero_le _, rfl, (by with_reducible repeat' (first | exact Fr.refl | exact Hid.out (by assumption) | refine Fr.alloc ?_ _ | refine fr_ext _ ?_ | refine fr_wx _ ?_ | refine Fr.drew ?_)), by simpa using hy⟩
  case round =>
    obtain ⟨k, hk, rfl, hfr, hwr⟩ := hrel
    clear hy
    by_cases hlt : k < xs.length
    · obtain ⟨y, hy⟩ := getElem?_of_lt hlt
      obtain ⟨hok, b, off, hba, hbl, hc⟩ := hs.out.at_ k y hy
      simp only at hba
      subst hba
      have hbw : Below B w0 wr := hd.out.trans (hfr.below hBp (by omega))
      have hc' : ∀ (j : Nat) (v : Value), (El.cells eInt y)[j]? = some v → wr.cell? ⟨b, off + k * 1 + j, none⟩ = some v := fun j v hv => (hbw.cell (p := ⟨b, _, none⟩) (by rw [hB]; exact hbl)).trans (hc j v hv)
      have h0 := hc' 0 _ rfl; simp only [Nat.add_zero, Nat.mul_one] at h0
      have hsp : xs.take (k + 1) = xs.take k ++ [y] := by rw [List.take_add_one, hy]; rfl
      have hlen : ((xs.take k).flatMap F).length + (F y).length ≤ (xs.flatMap F).length := by
        have e : xs.flatMap F = (xs.take (k + 1)).flatMap F ++ (xs.drop (k + 1)).flatMap F := by rw [← List.flatMap_append, List.take_append_drop]
        rw [e, hsp, List.flatMap_append]
        simp
      have hlen2 : (bs ++ [(xs.length : Int) % 256] ++ (xs.take k).flatMap F).length + (F y).length ≤ 1099511627776 := by
        simp only [List.length_append, List.length_singleton]; omega
      have hmem : y ∈ xs := List.mem_of_getElem? hy
      have HW := hid hwr
      have HL := hid hlen2
      have HF := hid hfr
      have HS := hid hsp
      have HM := hid hmem
      clear hc hc' hok hy hbl hfr hwr hsp hlen hlen2 hmem hbw
      have hk1 : (0 : Int) ≤ (k : Int) := by omega
      have hk2 : (k : Int) < (xs.length : Int) := by omega
      go_wp2_with (go_at_call 185; refine (hf.out y _ (bs ++ [(xs.length : Int) % 256] ++ (xs.take k).flatMap F) HM.out (by with_reducible repeat' (first | exact Fr.refl | exact Hid.out (by assumption) | refine Fr.alloc ?_ _ | refine fr_ext _ ?_ | refine fr_wx _ ?_ | refine Fr.drew ?_)) (by with_reducible repeat' (first | exact Hid.out (by assumption) | refine Wr.alloc ?_ _ | refine Wr.ext _ ?_ | refine Wr.drew ?_)) HL.out).go.mono ?_; rintro e w' ⟨rfl, z, rfl, hz⟩)
      go_roundw
      case rel => exact ⟨k + 1, by omega, by go_num, (by with_reducible repeat' (first | exact Fr.refl | exact Hid.out (by assumption) | refine Fr.alloc ?_ _ | refine fr_ext _ ?_ | refine fr_wx _ ?_ | refine Fr.drew ?_)), hz.eq (by rw [HS.out, List.flatMap_append]; simp)⟩
      case measure => simp [intOf]; omega
    · go_wp2_with fail
      go_end0
      obtain rfl : k = xs.length := by omega
      exact ⟨rfl, hfr, hwr.eq (by simp)⟩
set_option maxHeartbeats 1000000 in
set_option maxRecDepth 20000 in
theorem each_byte (B p : Nat) (s : Sl Int) (F : Int → List Int) (c0 : Value) (w0 w : World) (bs : List Int) (hB : B = w0.heap.size) (hs : Hid (s.Ok eByte 1 w0)) (hd : Hid (Below B w0 w)) (hw : Hid (Wr 5 B p w bs))
    (hl : bs.length + 1 + (s.xs.flatMap F).length ≤ 1099511627776)
    (hf : Hid (∀ (x : Int) (W : World) (cs : List Int), x ∈ s.xs → Fr 5 B p w W → Wr 5 B p W cs → cs.length + (F x).length ≤ 1099511627776 → Puts 5 Tryz.prog 180 #[.int .u8 x, c0] B p W cs (F x))) :
    Puts 5 Tryz.prog 179 #[.pointer (some ⟨p, 0, none⟩), s.v, .func (.func 180) #[] #[c0]] B p w bs (((s.xs.length : Int) % 256) :: s.xs.flatMap F) := by
  obtain ⟨a, c, xs⟩ := s
  have hle := hs.out.le
  have hmx := hs.out.max
  simp only at hle hmx hl
  show Puts _ _ _ #[_, .slice a xs.length c, .func (.func 180) _ _] _ _ _ _ _
  unfold Puts
  haveI : InW p w := ⟨hw.out.lt⟩
  have hBp := hw.out.le
  have hpw := hw.out.lt
  go_enter Tryz.func179, Tryz.ntmps179
  go_wp2_with ((go_at_call 120; refine (put1 B p _ ((xs.length : Int)) _ (bs) inferInstance (by simp) (by with_reducible repeat' (first | exact Hid.out (by assumption) | refine Wr.alloc ?_ _ | refine Wr.ext _ ?_ | refine Wr.drew ?_)) (by omega)).go.mono ?_; rintro e w' ⟨rfl, y, rfl, hy⟩))
  go_loopw [17] (fun i wr => ∃ k : Nat, k ≤ xs.length ∧ i = .int .i64 k ∧ Fr 5 B p w wr ∧ Wr 5 B p wr (bs ++ [(xs.length : Int) % 256] ++ (xs.take k).flatMap F)) (fun i _ => xs.length - (intOf i).toNat)
  case atStart => exact ⟨0, Nat.zero_le _, rfl, (by with_reducible repeat' (first | exact Fr.refl | exact Hid.out (by assumption) | refine Fr.alloc ?_ _ | refine fr_ext _ ?_ | refine fr_wx _ ?_ | refine Fr.drew ?_)), by simpa using hy⟩
  case round =>
    obtain ⟨k, hk, rfl, hfr, hwr⟩ := hrel
    clear hy
    by_cases hlt : k < xs.length
    · obtain ⟨y, hy⟩ := getElem?_of_lt hlt
      obtain ⟨hok, b, off, hba, hbl, hc⟩ := hs.out.at_ k y hy
      simp only at hba
      subst hba
      have hbw : Below B w0 wr := hd.out.trans (hfr.below hBp (by omega))
      have hc' : ∀ (j : Nat) (v : Value), (El.cells eByte y)[j]? = some v → wr.cell? ⟨b, off + k * 1 + j, none⟩ = some v := fun j v hv => (hbw.cell (p := ⟨b, _, none⟩) (by rw [hB]; exact hbl)).trans (hc j v hv)
      have h0 := hc' 0 _ rfl; simp only [Nat.add_zero, Nat.mul_one] at h0
      have hsp : xs.take (k + 1) = xs.take k ++ [y] := by rw [List.take_add_one, hy]; rfl
      have hlen : ((xs.take k).flatMap F).length + (F y).length ≤ (xs.flatMap F).length := by
        have e : xs.flatMap F = (xs.take (k + 1)).flatMap F ++ (xs.drop (k + 1)).flatMap F := by rw [← List.flatMap_append, List.take_append_drop]
        rw [e, hsp, List.flatMap_append]
        simp
      have hlen2 : (bs ++ [(xs.length : Int) % 256] ++ (xs.take k).flatMap F).length + (F y).length ≤ 1099511627776 := by
        simp only [List.length_append, List.length_singleton]; omega
      have hmem : y ∈ xs := List.mem_of_getElem? hy
      have HW := hid hwr
      have HL := hid hlen2
      have HF := hid hfr
      have HS := hid hsp
      have HM := hid hmem
      clear hc hc' hok hy hbl hfr hwr hsp hlen hlen2 hmem hbw
      have hk1 : (0 : Int) ≤ (k : Int) := by omega
      have hk2 : (k : Int) < (xs.length : Int) := by omega
      go_wp2_with (go_at_call 180; refine (hf.out y _ (bs ++ [(xs.length : Int) % 256] ++ (xs.take k).flatMap F) HM.out (by with_reducible repeat' (first | exact Fr.refl | exact Hid.out (by assumption) | refine Fr.alloc ?_ _ | refine fr_ext _ ?_ | refine fr_wx _ ?_ | refine Fr.drew ?_)) (by with_reducible repeat' (first | exact Hid.out (by assumption) | refine Wr.alloc ?_ _ | refine Wr.ext _ ?_ | refine Wr.drew ?_)) HL.out).go.mono ?_; rintro e w' ⟨rfl, z, rfl, hz⟩)
      go_roundw
      case rel => exact ⟨k + 1, by omega, by go_num, (by with_reducible repeat' (first | exact Fr.refl | exact Hid.out (by assumption) | refine Fr.alloc ?_ _ | refine fr_ext _ ?_ | refine fr_wx _ ?_ | refine Fr.drew ?_)), hz.eq (by rw [HS.out, List.flatMap_append]; simp)⟩
      case measure => simp [intOf]; omega
    · go_wp2_with fail
      go_end0
      obtain rfl : k = xs.length := by omega
      exact ⟨rfl, hfr, hwr.eq (by simp)⟩
set_option maxHeartbeats 1000000 in
set_option maxRecDepth 20000 in
theorem each_im (B p : Nat) (s : Sl Im) (F : Im → List Int) (c0 : Value) (w0 w : World) (bs : List Int) (hB : B = w0.heap.size) (hs : Hid (s.Ok eIm 3 w0)) (hd : Hid (Below B w0 w)) (hw : Hid (Wr 5 B p w bs))
    (hl : bs.length + 1 + (s.xs.flatMap F).length ≤ 1099511627776)
    (hf : Hid (∀ (x : Im) (W : World) (cs : List Int), x ∈ s.xs → Fr 5 B p w W → Wr 5 B p W cs → cs.length + (F x).length ≤ 1099511627776 → Puts 5 Tryz.prog 187 #[x.v, c0] B p W cs (F x))) :
    Puts 5 Tryz.prog 186 #[.pointer (some ⟨p, 0, none⟩), s.v, .func (.func 187) #[] #[c0]] B p w bs (((s.xs.length : Int) % 256) :: s.xs.flatMap F) := by
  obtain ⟨a, c, xs⟩ := s
  have hle := hs.out.le
  have hmx := hs.out.max
  simp only at hle hmx hl
  show Puts _ _ _ #[_, .slice a xs.length c, .func (.func 187) _ _] _ _ _ _ _
  unfold Puts
  haveI : InW p w := ⟨hw.out.lt⟩
  have hBp := hw.out.le
  have hpw := hw.out.lt
  go_enter Tryz.func186, Tryz.ntmps186
  go_wp2_with ((go_at_call 120; refine (put1 B p _ ((xs.length : Int)) _ (bs) inferInstance (by simp) (by with_reducible repeat' (first | exact Hid.out (by assumption) | refine Wr.alloc ?_ _ | refine Wr.ext _ ?_ | refine Wr.drew ?_)) (by omega)).go.mono ?_; rintro e w' ⟨rfl, y, rfl, hy⟩))
  go_loopw [17] (fun i wr => ∃ k : Nat, k ≤ xs.length ∧ i = .int .i64 k ∧ Fr 5 B p w wr ∧ Wr 5 B p wr (bs ++ [(xs.length : Int) % 256] ++ (xs.take k).flatMap F)) (fun i _ => xs.length - (intOf i).toNat)
  case atStart => exact ⟨0, Nat.zero_le _, rfl, (by with_reducible repeat' (first | exact Fr.refl | exact Hid.out (by assumption) | refine Fr.alloc ?_ _ | refine fr_ext _ ?_ | refine fr_wx _ ?_ | refine Fr.drew ?_)), by simpa using hy⟩
  case round =>
    obtain ⟨k, hk, rfl, hfr, hwr⟩ := hrel
    clear hy
    by_cases hlt : k < xs.length
    · obtain ⟨y, hy⟩ := getElem?_of_lt hlt
      obtain ⟨hok, b, off, hba, hbl, hc⟩ := hs.out.at_ k y hy
      simp only at hba
      subst hba
      have hbw : Below B w0 wr := hd.out.trans (hfr.below hBp (by omega))
      have hc' : ∀ (j : Nat) (v : Value), (El.cells eIm y)[j]? = some v → wr.cell? ⟨b, off + k * 3 + j, none⟩ = some v := fun j v hv => (hbw.cell (p := ⟨b, _, none⟩) (by rw [hB]; exact hbl)).trans (hc j v hv)
      have h0 := hc' 0 _ rfl; have h1 := hc' 1 _ rfl; have h2 := hc' 2 _ rfl; simp only [Nat.add_zero] at h0
      have hsp : xs.take (k + 1) = xs.take k ++ [y] := by rw [List.take_add_one, hy]; rfl
      have hlen : ((xs.take k).flatMap F).length + (F y).length ≤ (xs.flatMap F).length := by
        have e : xs.flatMap F = (xs.take (k + 1)).flatMap F ++ (xs.drop (k + 1)).flatMap F := by rw [← List.flatMap_append, List.take_append_drop]
        rw [e, hsp, List.flatMap_append]
        simp
      have hlen2 : (bs ++ [(xs.length : Int) % 256] ++ (xs.take k).flatMap F).length + (F y).length ≤ 1099511627776 := by
        simp only [List.length_append, List.length_singleton]; omega
      have hmem : y ∈ xs := List.mem_of_getElem? hy
      have HW := hid hwr
      have HL := hid hlen2
      have HF := hid hfr
      have HS := hid hsp
      have HM := hid hmem
      clear hc hc' hok hy hbl hfr hwr hsp hlen hlen2 hmem hbw
      have hk1 : (0 : Int) ≤ (k : Int) := by omega
      have hk2 : (k : Int) < (xs.length : Int) := by omega
      go_wp2_with (go_at_call 187; refine (hf.out y _ (bs ++ [(xs.length : Int) % 256] ++ (xs.take k).flatMap F) HM.out (by with_reducible repeat' (first | exact Fr.refl | exact Hid.out (by assumption) | refine Fr.alloc ?_ _ | refine fr_ext _ ?_ | refine fr_wx _ ?_ | refine Fr.drew ?_)) (by with_reducible repeat' (first | exact Hid.out (by assumption) | refine Wr.alloc ?_ _ | refine Wr.ext _ ?_ | refine Wr.drew ?_)) HL.out).go.mono ?_; rintro e w' ⟨rfl, z, rfl, hz⟩)
      go_roundw
      case rel => exact ⟨k + 1, by omega, by go_num, (by with_reducible repeat' (first | exact Fr.refl | exact Hid.out (by assumption) | refine Fr.alloc ?_ _ | refine fr_ext _ ?_ | refine fr_wx _ ?_ | refine Fr.drew ?_)), hz.eq (by rw [HS.out, List.flatMap_append]; simp)⟩
      case measure => simp [intOf]; omega
    · go_wp2_with fail
      go_end0
      obtain rfl : k = xs.length := by omega
      exact ⟨rfl, hfr, hwr.eq (by simp)⟩
set_option maxHeartbeats 1000000 in
set_option maxRecDepth 20000 in
theorem each_hd (B p : Nat) (s : Sl Hd) (F : Hd → List Int) (c0 : Value) (w0 w : World) (bs : List Int) (hB : B = w0.heap.size) (hs : Hid (s.Ok eHd 4 w0)) (hd : Hid (Below B w0 w)) (hw : Hid (Wr 5 B p w bs))
    (hl : bs.length + 1 + (s.xs.flatMap F).length ≤ 1099511627776)
    (hf : Hid (∀ (x : Hd) (W : World) (cs : List Int), x ∈ s.xs → Fr 5 B p w W → Wr 5 B p W cs → cs.length + (F x).length ≤ 1099511627776 → Puts 5 Tryz.prog 191 #[x.v, c0] B p W cs (F x))) :
    Puts 5 Tryz.prog 190 #[.pointer (some ⟨p, 0, none⟩), s.v, .func (.func 191) #[] #[c0]] B p w bs (((s.xs.length : Int) % 256) :: s.xs.flatMap F) := by
  obtain ⟨a, c, xs⟩ := s
  have hle := hs.out.le
  have hmx := hs.out.max
  simp only at hle hmx hl
  show Puts _ _ _ #[_, .slice a xs.length c, .func (.func 191) _ _] _ _ _ _ _
  unfold Puts
  haveI : InW p w := ⟨hw.out.lt⟩
  have hBp := hw.out.le
  have hpw := hw.out.lt
  go_enter Tryz.func190, Tryz.ntmps190
  go_wp2_with ((go_at_call 120; refine (put1 B p _ ((xs.length : Int)) _ (bs) inferInstance (by simp) (by with_reducible repeat' (first | exact Hid.out (by assumption) | refine Wr.alloc ?_ _ | refine Wr.ext _ ?_ | refine Wr.drew ?_)) (by omega)).go.mono ?_; rintro e w' ⟨rfl, y, rfl, hy⟩))
  go_loopw [17] (fun i wr => ∃ k : Nat, k ≤ xs.length ∧ i = .int .i64 k ∧ Fr 5 B p w wr ∧ Wr 5 B p wr (bs ++ [(xs.length : Int) % 256] ++ (xs.take k).flatMap F)) (fun i _ => xs.length - (intOf i).toNat)
  case atStart => exact ⟨0, Nat.zero_le _, rfl, (by with_reducible repeat' (first | exact Fr.refl | exact Hid.out (by assumption) | refine Fr.alloc ?_ _ | refine fr_ext _ ?_ | refine fr_wx _ ?_ | refine Fr.drew ?_)), by simpa using hy⟩
  case round =>
    obtain ⟨k, hk, rfl, hfr, hwr⟩ := hrel
    clear hy
    by_cases hlt : k < xs.length
    · obtain ⟨y, hy⟩ := getElem?_of_lt hlt
      obtain ⟨hok, b, off, hba, hbl, hc⟩ := hs.out.at_ k y hy
      simp only at hba
      subst hba
      have hbw : Below B w0 wr := hd.out.trans (hfr.below hBp (by omega))
      have hc' : ∀ (j : Nat) (v : Value), (El.cells eHd y)[j]? = some v → wr.cell? ⟨b, off + k * 4 + j, none⟩ = some v := fun j v hv => (hbw.cell (p := ⟨b, _, none⟩) (by rw [hB]; exact hbl)).trans (hc j v hv)
      have h0 := hc' 0 _ rfl; have h1 := hc' 1 _ rfl; have h2 := hc' 2 _ rfl; have h3 := hc' 3 _ rfl; simp only [Nat.add_zero] at h0
      have hsp : xs.take (k + 1) = xs.take k ++ [y] := by rw [List.take_add_one, hy]; rfl
      have hlen : ((xs.take k).flatMap F).length + (F y).length ≤ (xs.flatMap F).length := by
        have e : xs.flatMap F = (xs.take (k + 1)).flatMap F ++ (xs.drop (k + 1)).flatMap F := by rw [← List.flatMap_append, List.take_append_drop]
        rw [e, hsp, List.flatMap_append]
        simp
      have hlen2 : (bs ++ [(xs.length : Int) % 256] ++ (xs.take k).flatMap F).length + (F y).length ≤ 1099511627776 := by
        simp only [List.length_append, List.length_singleton]; omega
      have hmem : y ∈ xs := List.mem_of_getElem? hy
      have HW := hid hwr
      have HL := hid hlen2
      have HF := hid hfr
      have HS := hid hsp
      have HM := hid hmem
      clear hc hc' hok hy hbl hfr hwr hsp hlen hlen2 hmem hbw
      have hk1 : (0 : Int) ≤ (k : Int) := by omega
      have hk2 : (k : Int) < (xs.length : Int) := by omega
      go_wp2_with (go_at_call 191; refine (hf.out y _ (bs ++ [(xs.length : Int) % 256] ++ (xs.take k).flatMap F) HM.out (by with_reducible repeat' (first | exact Fr.refl | exact Hid.out (by assumption) | refine Fr.alloc ?_ _ | refine fr_ext _ ?_ | refine fr_wx _ ?_ | refine Fr.drew ?_)) (by with_reducible repeat' (first | exact Hid.out (by assumption) | refine Wr.alloc ?_ _ | refine Wr.ext _ ?_ | refine Wr.drew ?_)) HL.out).go.mono ?_; rintro e w' ⟨rfl, z, rfl, hz⟩)
      go_roundw
      case rel => exact ⟨k + 1, by omega, by go_num, (by with_reducible repeat' (first | exact Fr.refl | exact Hid.out (by assumption) | refine Fr.alloc ?_ _ | refine fr_ext _ ?_ | refine fr_wx _ ?_ | refine Fr.drew ?_)), hz.eq (by rw [HS.out, List.flatMap_append]; simp)⟩
      case measure => simp [intOf]; omega
    · go_wp2_with fail
      go_end0
      obtain rfl : k = xs.length := by omega
      exact ⟨rfl, hfr, hwr.eq (by simp)⟩
set_option maxHeartbeats 1000000 in
set_option maxRecDepth 20000 in
theorem each_ip (B p : Nat) (s : Sl Ip) (F : Ip → List Int) (c0 : Value) (w0 w : World) (bs : List Int) (hB : B = w0.heap.size) (hs : Hid (s.Ok eIp 3 w0)) (hd : Hid (Below B w0 w)) (hw : Hid (Wr 5 B p w bs))
    (hl : bs.length + 1 + (s.xs.flatMap F).length ≤ 1099511627776)
    (hf : Hid (∀ (x : Ip) (W : World) (cs : List Int), x ∈ s.xs → Fr 5 B p w W → Wr 5 B p W cs → cs.length + (F x).length ≤ 1099511627776 → Puts 5 Tryz.prog 123 #[x.v, c0] B p W cs (F x))) :
    Puts 5 Tryz.prog 122 #[.pointer (some ⟨p, 0, none⟩), s.v, .func (.func 123) #[] #[c0]] B p w bs (((s.xs.length : Int) % 256) :: s.xs.flatMap F) := by
  obtain ⟨a, c, xs⟩ := s
  have hle := hs.out.le
  have hmx := hs.out.max
  simp only at hle hmx hl
  show Puts _ _ _ #[_, .slice a xs.length c, .func (.func 123) _ _] _ _ _ _ _
  unfold Puts
  haveI : InW p w := ⟨hw.out.lt⟩
  have hBp := hw.out.le
  have hpw := hw.out.lt
  go_enter Tryz.func122, Tryz.ntmps122
  go_wp2_with ((go_at_call 120; refine (put1 B p _ ((xs.length : Int)) _ (bs) inferInstance (by simp) (by with_reducible repeat' (first | exact Hid.out (by assumption) | refine Wr.alloc ?_ _ | refine Wr.ext _ ?_ | refine Wr.drew ?_)) (by omega)).go.mono ?_; rintro e w' ⟨rfl, y, rfl, hy⟩))
  go_loopw [17] (fun i wr => ∃ k : Nat, k ≤ xs.length ∧ i = .int .i64 k ∧ Fr 5 B p w wr ∧ Wr 5 B p wr (bs ++ [(xs.length : Int) % 256] ++ (xs.take k).flatMap F)) (fun i _ => xs.length - (intOf i).toNat)
  case atStart => exact ⟨0, Nat.zero_le _, rfl, (by with_reducible repeat' (first | exact Fr.refl | exact Hid.out (by assumption) | refine Fr.alloc ?_ _ | refine fr_ext _ ?_ | refine fr_wx _ ?_ | refine Fr.drew ?_)), by simpa using hy⟩
  case round =>
    obtain ⟨k, hk, rfl, hfr, hwr⟩ := hrel
    clear hy
    by_cases hlt : k < xs.length
    · obtain ⟨y, hy⟩ := getElem?_of_lt hlt
      obtain ⟨hok, b, off, hba, hbl, hc⟩ := hs.out.at_ k y hy
      simp only at hba
      subst hba
      have hbw : Below B w0 wr := hd.out.trans (hfr.below hBp (by omega))
      have hc' : ∀ (j : Nat) (v : Value), (El.cells eIp y)[j]? = some v → wr.cell? ⟨b, off + k * 3 + j, none⟩ = some v := fun j v hv => (hbw.cell (p := ⟨b, _, none⟩) (by rw [hB]; exact hbl)).trans (hc j v hv)
      have h0 := hc' 0 _ rfl; have h1 := hc' 1 _ rfl; have h2 := hc' 2 _ rfl; simp only [Nat.add_zero] at h0
      have hsp : xs.take (k + 1) = xs.take k ++ [y] := by rw [List.take_add_one, hy]; rfl
      have hlen : ((xs.take k).flatMap F).length + (F y).length ≤ (xs.flatMap F).length := by
        have e : xs.flatMap F = (xs.take (k + 1)).flatMap F ++ (xs.drop (k + 1)).flatMap F := by rw [← List.flatMap_append, List.take_append_drop]
        rw [e, hsp, List.flatMap_append]
        simp
      have hlen2 : (bs ++ [(xs.length : Int) % 256] ++ (xs.take k).flatMap F).length + (F y).length ≤ 1099511627776 := by
        simp only [List.length_append, List.length_singleton]; omega
      have hmem : y ∈ xs := List.mem_of_getElem? hy
      have HW := hid hwr
      have HL := hid hlen2
      have HF := hid hfr
      have HS := hid hsp
      have HM := hid hmem
      clear hc hc' hok hy hbl hfr hwr hsp hlen hlen2 hmem hbw
      have hk1 : (0 : Int) ≤ (k : Int) := by omega
      have hk2 : (k : Int) < (xs.length : Int) := by omega
      go_wp2_with (go_at_call 123; refine (hf.out y _ (bs ++ [(xs.length : Int) % 256] ++ (xs.take k).flatMap F) HM.out (by with_reducible repeat' (first | exact Fr.refl | exact Hid.out (by assumption) | refine Fr.alloc ?_ _ | refine fr_ext _ ?_ | refine fr_wx _ ?_ | refine Fr.drew ?_)) (by with_reducible repeat' (first | exact Hid.out (by assumption) | refine Wr.alloc ?_ _ | refine Wr.ext _ ?_ | refine Wr.drew ?_)) HL.out).go.mono ?_; rintro e w' ⟨rfl, z, rfl, hz⟩)
      go_roundw
      case rel => exact ⟨k + 1, by omega, by go_num, (by with_reducible repeat' (first | exact Fr.refl | exact Hid.out (by assumption) | refine Fr.alloc ?_ _ | refine fr_ext _ ?_ | refine fr_wx _ ?_ | refine Fr.drew ?_)), hz.eq (by rw [HS.out, List.flatMap_append]; simp)⟩
      case measure => simp [intOf]; omega
    · go_wp2_with fail
      go_end0
      obtain rfl : k = xs.length := by omega
      exact ⟨rfl, hfr, hwr.eq (by simp)⟩
set_option maxHeartbeats 1000000 in
set_option maxRecDepth 20000 in
theorem each_cl (B p : Nat) (s : Sl Cl) (F : Cl → List Int)  (w0 w : World) (bs : List Int) (hB : B = w0.heap.size) (hs : Hid (s.Ok eCl 7 w0)) (hd : Hid (Below B w0 w)) (hw : Hid (Wr 5 B p w bs))
    (hl : bs.length + 1 + (s.xs.flatMap F).length ≤ 1099511627776)
    (hf : Hid (∀ (x : Cl) (W : World) (cs : List Int), x ∈ s.xs → Fr 5 B p w W → Wr 5 B p W cs → cs.length + (F x).length ≤ 1099511627776 → Puts 5 Tryz.prog 125 #[.pointer (some ⟨p, 0, none⟩), x.v] B p W cs (F x))) :
    Puts 5 Tryz.prog 124 #[.pointer (some ⟨p, 0, none⟩), s.v, .func (.func 125) #[.pointer (some ⟨p, 0, none⟩)] #[]] B p w bs (((s.xs.length : Int) % 256) :: s.xs.flatMap F) := by
  obtain ⟨a, c, xs⟩ := s
  have hle := hs.out.le
  have hmx := hs.out.max
  simp only at hle hmx hl
  show Puts _ _ _ #[_, .slice a xs.length c, .func (.func 125) _ _] _ _ _ _ _
  unfold Puts
  haveI : InW p w := ⟨hw.out.lt⟩
  have hBp := hw.out.le
  have hpw := hw.out.lt
  go_enter Tryz.func124, Tryz.ntmps124
  go_wp2_with ((go_at_call 120; refine (put1 B p _ ((xs.length : Int)) _ (bs) inferInstance (by simp) (by with_reducible repeat' (first | exact Hid.out (by assumption) | refine Wr.alloc ?_ _ | refine Wr.ext _ ?_ | refine Wr.drew ?_)) (by omega)).go.mono ?_; rintro e w' ⟨rfl, y, rfl, hy⟩))
  go_loopw [17] (fun i wr => ∃ k : Nat, k ≤ xs.length ∧ i = .int .i64 k ∧ Fr 5 B p w wr ∧ Wr 5 B p wr (bs ++ [(xs.length : Int) % 256] ++ (xs.take k).flatMap F)) (fun i _ => xs.length - (intOf i).toNat)
  case atStart => exact ⟨0, Nat.zero_le _, rfl, (by with_reducible repeat' (first | exact Fr.refl | exact Hid.out (by assumption) | refine Fr.alloc ?_ _ | refine fr_ext _ ?_ | refine fr_wx _ ?_ | refine Fr.drew ?_)), by simpa using hy⟩
  case round =>
    obtain ⟨k, hk, rfl, hfr, hwr⟩ := hrel
    clear hy
    by_cases hlt : k < xs.length
    · obtain ⟨y, hy⟩ := getElem?_of_lt hlt
      obtain ⟨hok, b, off, hba, hbl, hc⟩ := hs.out.at_ k y hy
      simp only at hba
      subst hba
      have hbw : Below B w0 wr := hd.out.trans (hfr.below hBp (by omega))
      have hc' : ∀ (j : Nat) (v : Value), (El.cells eCl y)[j]? = some v → wr.cell? ⟨b, off + k * 7 + j, none⟩ = some v := fun j v hv => (hbw.cell (p := ⟨b, _, none⟩) (by rw [hB]; exact hbl)).trans (hc j v hv)
      have h0 := hc' 0 _ rfl; have h1 := hc' 1 _ rfl; have h2 := hc' 2 _ rfl; have h3 := hc' 3 _ rfl; have h4 := hc' 4 _ rfl; have h5 := hc' 5 _ rfl; have h6 := hc' 6 _ rfl; simp only [Nat.add_zero] at h0
      have hsp : xs.take (k + 1) = xs.take k ++ [y] := by rw [List.take_add_one, hy]; rfl
      have hlen : ((xs.take k).flatMap F).length + (F y).length ≤ (xs.flatMap F).length := by
        have e : xs.flatMap F = (xs.take (k + 1)).flatMap F ++ (xs.drop (k + 1)).flatMap F := by rw [← List.flatMap_append, List.take_append_drop]
        rw [e, hsp, List.flatMap_append]
        simp
      have hlen2 : (bs ++ [(xs.length : Int) % 256] ++ (xs.take k).flatMap F).length + (F y).length ≤ 1099511627776 := by
        simp only [List.length_append, List.length_singleton]; omega
      have hmem : y ∈ xs := List.mem_of_getElem? hy
      have HW := hid hwr
      have HL := hid hlen2
      have HF := hid hfr
      have HS := hid hsp
      have HM := hid hmem
      clear hc hc' hok hy hbl hfr hwr hsp hlen hlen2 hmem hbw
      have hk1 : (0 : Int) ≤ (k : Int) := by omega
      have hk2 : (k : Int) < (xs.length : Int) := by omega
      go_wp2_with (go_at_call 125; refine (hf.out y _ (bs ++ [(xs.length : Int) % 256] ++ (xs.take k).flatMap F) HM.out (by with_reducible repeat' (first | exact Fr.refl | exact Hid.out (by assumption) | refine Fr.alloc ?_ _ | refine fr_ext _ ?_ | refine fr_wx _ ?_ | refine Fr.drew ?_)) (by with_reducible repeat' (first | exact Hid.out (by assumption) | refine Wr.alloc ?_ _ | refine Wr.ext _ ?_ | refine Wr.drew ?_)) HL.out).go.mono ?_; rintro e w' ⟨rfl, z, rfl, hz⟩)
      go_roundw
      case rel => exact ⟨k + 1, by omega, by go_num, (by with_reducible repeat' (first | exact Fr.refl | exact Hid.out (by assumption) | refine Fr.alloc ?_ _ | refine fr_ext _ ?_ | refine fr_wx _ ?_ | refine Fr.drew ?_)), hz.eq (by rw [HS.out, List.flatMap_append]; simp)⟩
      case measure => simp [intOf]; omega
    · go_wp2_with fail
      go_end0
      obtain rfl : k = xs.length := by omega
      exact ⟨rfl, hfr, hwr.eq (by simp)⟩
set_option maxHeartbeats 1000000 in
set_option maxRecDepth 20000 in
theorem each_me (B p : Nat) (s : Sl Me) (F : Me → List Int)  (w0 w : World) (bs : List Int) (hB : B = w0.heap.size) (hs : Hid (s.Ok eMe 11 w0)) (hd : Hid (Below B w0 w)) (hw : Hid (Wr 5 B p w bs))
    (hl : bs.length + 1 + (s.xs.flatMap F).length ≤ 1099511627776)
    (hf : Hid (∀ (x : Me) (W : World) (cs : List Int), x ∈ s.xs → Fr 5 B p w W → Wr 5 B p W cs → cs.length + (F x).length ≤ 1099511627776 → Puts 5 Tryz.prog 127 #[.pointer (some ⟨p, 0, none⟩), x.v] B p W cs (F x))) :
    Puts 5 Tryz.prog 126 #[.pointer (some ⟨p, 0, none⟩), s.v, .func (.func 127) #[.pointer (some ⟨p, 0, none⟩)] #[]] B p w bs (((s.xs.length : Int) % 256) :: s.xs.flatMap F) := by
  obtain ⟨a, c, xs⟩ := s
  have hle := hs.out.le
  have hmx := hs.out.max
  simp only at hle hmx hl
  show Puts _ _ _ #[_, .slice a xs.length c, .func (.func 127) _ _] _ _ _ _ _
  unfold Puts
  haveI : InW p w := ⟨hw.out.lt⟩
  have hBp := hw.out.le
  have hpw := hw.out.lt
  go_enter Tryz.func126, Tryz.ntmps126
  go_wp2_with ((go_at_call 120; refine (put1 B p _ ((xs.length : Int)) _ (bs) inferInstance (by simp) (by with_reducible repeat' (first | exact Hid.out (by assumption) | refine Wr.alloc ?_ _ | refine Wr.ext _ ?_ | refine Wr.drew ?_)) (by omega)).go.mono ?_; rintro e w' ⟨rfl, y, rfl, hy⟩))
  go_loopw [17] (fun i wr => ∃ k : Nat, k ≤ xs.length ∧ i = .int .i64 k ∧ Fr 5 B p w wr ∧ Wr 5 B p wr (bs ++ [(xs.length : Int) % 256] ++ (xs.take k).flatMap F)) (fun i _ => xs.length - (intOf i).toNat)
  case atStart => exact ⟨0, Nat.zero_le _, rfl, (by with_reducible repeat' (first | exact Fr.refl | exact Hid.out (by assumption) | refine Fr.alloc ?_ _ | refine fr_ext _ ?_ | refine fr_wx _ ?_ | refine Fr.drew ?_)), by simpa using hy⟩
  case round =>
    obtain ⟨k, hk, rfl, hfr, hwr⟩ := hrel
    clear hy
    by_cases hlt : k < xs.length
    · obtain ⟨y, hy⟩ := getElem?_of_lt hlt
      obtain ⟨hok, b, off, hba, hbl, hc⟩ := hs.out.at_ k y hy
      simp only at hba
      subst hba
      have hbw : Below B w0 wr := hd.out.trans (hfr.below hBp (by omega))
      have hc' : ∀ (j : Nat) (v : Value), (El.cells eMe y)[j]? = some v → wr.cell? ⟨b, off + k * 11 + j, none⟩ = some v := fun j v hv => (hbw.cell (p := ⟨b, _, none⟩) (by rw [hB]; exact hbl)).trans (hc j v hv)
      have h0 := hc' 0 _ rfl; have h1 := hc' 1 _ rfl; have h2 := hc' 2 _ rfl; have h3 := hc' 3 _ rfl; have h4 := hc' 4 _ rfl; have h5 := hc' 5 _ rfl; have h6 := hc' 6 _ rfl; have h7 := hc' 7 _ rfl; have h8 := hc' 8 _ rfl; have h9 := hc' 9 _ rfl; have h10 := hc' 10 _ rfl; simp only [Nat.add_zero] at h0
      have hsp : xs.take (k + 1) = xs.take k ++ [y] := by rw [List.take_add_one, hy]; rfl
      have hlen : ((xs.take k).flatMap F).length + (F y).length ≤ (xs.flatMap F).length := by
        have e : xs.flatMap F = (xs.take (k + 1)).flatMap F ++ (xs.drop (k + 1)).flatMap F := by rw [← List.flatMap_append, List.take_append_drop]
        rw [e, hsp, List.flatMap_append]
        simp
      have hlen2 : (bs ++ [(xs.length : Int) % 256] ++ (xs.take k).flatMap F).length + (F y).length ≤ 1099511627776 := by
        simp only [List.length_append, List.length_singleton]; omega
      have hmem : y ∈ xs := List.mem_of_getElem? hy
      have HW := hid hwr
      have HL := hid hlen2
      have HF := hid hfr
      have HS := hid hsp
      have HM := hid hmem
      clear hc hc' hok hy hbl hfr hwr hsp hlen hlen2 hmem hbw
      have hk1 : (0 : Int) ≤ (k : Int) := by omega
      have hk2 : (k : Int) < (xs.length : Int) := by omega
      go_wp2_with (go_at_call 127; refine (hf.out y _ (bs ++ [(xs.length : Int) % 256] ++ (xs.take k).flatMap F) HM.out (by with_reducible repeat' (first | exact Fr.refl | exact Hid.out (by assumption) | refine Fr.alloc ?_ _ | refine fr_ext _ ?_ | refine fr_wx _ ?_ | refine Fr.drew ?_)) (by with_reducible repeat' (first | exact Hid.out (by assumption) | refine Wr.alloc ?_ _ | refine Wr.ext _ ?_ | refine Wr.drew ?_)) HL.out).go.mono ?_; rintro e w' ⟨rfl, z, rfl, hz⟩)
      go_roundw
      case rel => exact ⟨k + 1, by omega, by go_num, (by with_reducible repeat' (first | exact Fr.refl | exact Hid.out (by assumption) | refine Fr.alloc ?_ _ | refine fr_ext _ ?_ | refine fr_wx _ ?_ | refine Fr.drew ?_)), hz.eq (by rw [HS.out, List.flatMap_append]; simp)⟩
      case measure => simp [intOf]; omega
    · go_wp2_with fail
      go_end0
      obtain rfl : k = xs.length := by omega
      exact ⟨rfl, hfr, hwr.eq (by simp)⟩
set_option maxHeartbeats 1000000 in
set_option maxRecDepth 20000 in
theorem each_ap (B p : Nat) (s : Sl Ap) (F : Ap → List Int) (c0 : Value) (w0 w : World) (bs : List Int) (hB : B = w0.heap.size) (hs : Hid (s.Ok eAp 3 w0)) (hd : Hid (Below B w0 w)) (hw : Hid (Wr 5 B p w bs))
    (hl : bs.length + 1 + (s.xs.flatMap F).length ≤ 1099511627776)
    (hf : Hid (∀ (x : Ap) (W : World) (cs : List Int), x ∈ s.xs → Fr 5 B p w W → Wr 5 B p W cs → cs.length + (F x).length ≤ 1099511627776 → Puts 5 Tryz.prog 131 #[x.v, c0] B p W cs (F x))) :
    Puts 5 Tryz.prog 130 #[.pointer (some ⟨p, 0, none⟩), s.v, .func (.func 131) #[] #[c0]] B p w bs (((s.xs.length : Int) % 256) :: s.xs.flatMap F) := by
  obtain ⟨a, c, xs⟩ := s
  have hle := hs.out.le
  have hmx := hs.out.max
  simp only at hle hmx hl
  show Puts _ _ _ #[_, .slice a xs.length c, .func (.func 131) _ _] _ _ _ _ _
  unfold Puts
  haveI : InW p w := ⟨hw.out.lt⟩
  have hBp := hw.out.le
  have hpw := hw.out.lt
  go_enter Tryz.func130, Tryz.ntmps130
  go_wp2_with ((go_at_call 120; refine (put1 B p _ ((xs.length : Int)) _ (bs) inferInstance (by simp) (by with_reducible repeat' (first | exact Hid.out (by assumption) | refine Wr.alloc ?_ _ | refine Wr.ext _ ?_ | refine Wr.drew ?_)) (by omega)).go.mono ?_; rintro e w' ⟨rfl, y, rfl, hy⟩))
  go_loopw [17] (fun i wr => ∃ k : Nat, k ≤ xs.length ∧ i = .int .i64 k ∧ Fr 5 B p w wr ∧ Wr 5 B p wr (bs ++ [(xs.length : Int) % 256] ++ (xs.take k).flatMap F)) (fun i _ => xs.length - (intOf i).toNat)
  case atStart => exact ⟨0, Nat.zero_le _, rfl, (by with_reducible repeat' (first | exact Fr.refl | exact Hid.out (by assumption) | refine Fr.alloc ?_ _ | refine fr_ext _ ?_ | refine fr_wx _ ?_ | refine Fr.drew ?_)), by simpa using hy⟩
  case round =>
    obtain ⟨k, hk, rfl, hfr, hwr⟩ := hrel
    clear hy
    by_cases hlt : k < xs.length
    · obtain ⟨y, hy⟩ := getElem?_of_lt hlt
      obtain ⟨hok, b, off, hba, hbl, hc⟩ := hs.out.at_ k y hy
      simp only at hba
      subst hba
      have hbw : Below B w0 wr := hd.out.trans (hfr.below hBp (by omega))
      have hc' : ∀ (j : Nat) (v : Value), (El.cells eAp y)[j]? = some v → wr.cell? ⟨b, off + k * 3 + j, none⟩ = some v := fun j v hv => (hbw.cell (p := ⟨b, _, none⟩) (by rw [hB]; exact hbl)).trans (hc j v hv)
      have h0 := hc' 0 _ rfl; have h1 := hc' 1 _ rfl; have h2 := hc' 2 _ rfl; simp only [Nat.add_zero] at h0
      have hsp : xs.take (k + 1) = xs.take k ++ [y] := by rw [List.take_add_one, hy]; rfl
      have hlen : ((xs.take k).flatMap F).length + (F y).length ≤ (xs.flatMap F).length := by
        have e : xs.flatMap F = (xs.take (k + 1)).flatMap F ++ (xs.drop (k + 1)).flatMap F := by rw [← List.flatMap_append, List.take_append_drop]
        rw [e, hsp, List.flatMap_append]
        simp
      have hlen2 : (bs ++ [(xs.length : Int) % 256] ++ (xs.take k).flatMap F).length + (F y).length ≤ 1099511627776 := by
        simp only [List.length_append, List.length_singleton]; omega
      have hmem : y ∈ xs := List.mem_of_getElem? hy
      have HW := hid hwr
      have HL := hid hlen2
      have HF := hid hfr
      have HS := hid hsp
      have HM := hid hmem
      clear hc hc' hok hy hbl hfr hwr hsp hlen hlen2 hmem hbw
      have hk1 : (0 : Int) ≤ (k : Int) := by omega
      have hk2 : (k : Int) < (xs.length : Int) := by omega
      go_wp2_with (go_at_call 131; refine (hf.out y _ (bs ++ [(xs.length : Int) % 256] ++ (xs.take k).flatMap F) HM.out (by with_reducible repeat' (first | exact Fr.refl | exact Hid.out (by assumption) | refine Fr.alloc ?_ _ | refine fr_ext _ ?_ | refine fr_wx _ ?_ | refine Fr.drew ?_)) (by with_reducible repeat' (first | exact Hid.out (by assumption) | refine Wr.alloc ?_ _ | refine Wr.ext _ ?_ | refine Wr.drew ?_)) HL.out).go.mono ?_; rintro e w' ⟨rfl, z, rfl, hz⟩)
      go_roundw
      case rel => exact ⟨k + 1, by omega, by go_num, (by with_reducible repeat' (first | exact Fr.refl | exact Hid.out (by assumption) | refine Fr.alloc ?_ _ | refine fr_ext _ ?_ | refine fr_wx _ ?_ | refine Fr.drew ?_)), hz.eq (by rw [HS.out, List.flatMap_append]; simp)⟩
      case measure => simp [intOf]; omega
    · go_wp2_with fail
      go_end0
      obtain rfl : k = xs.length := by omega
      exact ⟨rfl, hfr, hwr.eq (by simp)⟩
end Go.Proofs.YthagkijplklemaaGreatDoor
end

section
namespace Go.Proofs.YthagkijplklemaaGreatDoor
open Go.ChangeShapes Go.WideShapes Go.ChangeAt Go.RowKit Go.Sc
abbrev listB {α : Type} (F : α → List Int) (xs : List α) : List Int := ((xs.length : Int) % 256) :: xs.flatMap F
theorem fr_cell {U : TypeId} {B p b o : Nat} {w w' : World} (h : Fr U B p w w') (hk : Kp U B p b w) : w'.cell? ⟨b, o, none⟩ = w.cell? ⟨b, o, none⟩ := World.cell?_of_block (w := w) (h.block b hk.lt hk.ne hk.nu)
theorem fr_kp {U : TypeId} {B p b : Nat} {w w' : World} (h : Fr U B p w w') (hk : Kp U B p b w) : Kp U B p b w' := @Kp.wx U B p b w hk ⟨w', h⟩
theorem flag_any (b : Bool) (n : Int) (w : World) : Gives Tryz.prog 181 #[.bool b, .int .i64 n] w (.int .i64 (if b then n else 0)) := by
  unfold Gives
  cases b
  all_goals
    go_enter Tryz.func181, Tryz.ntmps181
    go_wp2_with fail
    go_ret
    exact ⟨ret_int (by simp), (by with_reducible repeat' (first | exact Below.refl _ _ | exact Nat.le_refl _ | refine Below.alloc ?_ ?_ _ | refine below_ext _ ?_ ?_ | refine Below.drew ?_ | refine Below.setCell ?_ ?_ _ | refine le_alloc ?_ | refine Ext.le_size _ ?_ | refine le_drew ?_ | refine le_setCell ?_))⟩
theorem number_any (B p : Nat) (n : Int) (w : World) (bs : List Int) (hw : Hid (Wr 5 B p w bs)) (hl : bs.length + 1 ≤ 1099511627776) :
    Puts 5 Tryz.prog 185 #[.pointer (some ⟨p, 0, none⟩), .int .i64 n] B p w bs [n % 256] := by
  unfold Puts
  haveI : InW p w := ⟨hw.out.lt⟩
  go_enter Tryz.func185, Tryz.ntmps185
  go_wp2_with ((go_at_call 120; refine (put1 B p _ (n) _ (bs) inferInstance (by simp) (by with_reducible repeat' (first | exact Hid.out (by assumption) | refine Wr.alloc ?_ _ | refine Wr.ext _ ?_ | refine Wr.drew ?_)) (hl)).go.mono ?_; rintro e w' ⟨rfl, y, rfl, hy⟩))
  go_end0
  exact ⟨rfl, (by with_reducible repeat' (first | exact Fr.refl | exact Hid.out (by assumption) | refine Fr.alloc ?_ _ | refine fr_ext _ ?_ | refine fr_wx _ ?_ | refine Fr.drew ?_)), hy⟩
theorem aid1_any (B p cb : Nat) (x : Int) (w : World) (bs : List Int) (hc : w.cell? ⟨cb, 0, none⟩ = some (.pointer (some ⟨p, 0, none⟩))) (hx1 : 0 ≤ x) (hx2 : x ≤ 255) (hw : Hid (Wr 5 B p w bs)) (hl : bs.length + 1 ≤ 1099511627776) :
    Puts 5 Tryz.prog 180 #[.int .u8 x, .pointer (some ⟨cb, 0, none⟩)] B p w bs [x % 256] := by
  unfold Puts
  haveI : InW p w := ⟨hw.out.lt⟩
  go_enter Tryz.func180, Tryz.ntmps180
  go_wp2_with ((go_at_call 120; refine (put1 B p _ (x) _ (bs) inferInstance (by simp) (by with_reducible repeat' (first | exact Hid.out (by assumption) | refine Wr.alloc ?_ _ | refine Wr.ext _ ?_ | refine Wr.drew ?_)) (hl)).go.mono ?_; rintro e w' ⟨rfl, y, rfl, hy⟩))
  go_end0
  exact ⟨rfl, (by with_reducible repeat' (first | exact Fr.refl | exact Hid.out (by assumption) | refine Fr.alloc ?_ _ | refine fr_ext _ ?_ | refine fr_wx _ ?_ | refine Fr.drew ?_)), hy⟩
instance : NeT 147 5 := ⟨by decide⟩
theorem byte_each (B p cb : Nat) (s : Sl Int) (w0 : World) (hs : Hid (Bytes w0 s)) : Hid (∀ w1 : World, w1.cell? ⟨cb, 0, none⟩ = some (.pointer (some ⟨p, 0, none⟩)) → Kp 5 B p cb w1 →
    ∀ (x : Int) (W : World) (cs : List Int), x ∈ s.xs → Fr 5 B p w1 W → Wr 5 B p W cs → cs.length + [x % 256].length ≤ 1099511627776 → Puts 5 Tryz.prog 180 #[.int .u8 x, .pointer (some ⟨cb, 0, none⟩)] B p W cs [x % 256]) :=
  fun w1 hc hk x W cs hm hf hw hl => by
    obtain ⟨j, hj⟩ := List.mem_iff_getElem?.1 hm
    have hx := (hs.out.at_ j x hj).1
    exact aid1_any B p cb x W cs ((fr_cell hf hk).trans hc) hx.1 hx.2 hw hl
theorem aid_any (B p : Nat) (s : Sl Int) (w0 w : World) (bs : List Int) (hB : B = w0.heap.size) (hs : Hid (Bytes w0 s)) (hd : Hid (Below B w0 w)) (hw : Hid (Wr 5 B p w bs)) (hl : bs.length + (listB (fun x : Int => [x % 256]) s.xs).length ≤ 1099511627776) :
    Puts 5 Tryz.prog 121 #[.pointer (some ⟨p, 0, none⟩), s.v] B p w bs (listB (fun x : Int => [x % 256]) s.xs) := by
  unfold Puts
  haveI : InW p w := ⟨hw.out.lt⟩
  have hBp := hw.out.le
  have hpw := hw.out.lt
  have hl' : bs.length + 1 + (s.xs.flatMap (fun x : Int => [x % 256])).length ≤ 1099511627776 := by simp only [listB, List.length_cons] at hl; omega
  have hf := byte_each B p w.heap.size s w0 hs
  have hE : Hid (∀ w1 : World, w1.cell? ⟨w.heap.size, 0, none⟩ = some (.pointer (some ⟨p, 0, none⟩)) → Kp 5 B p w.heap.size w1 → Fr 5 B p w w1 → Wr 5 B p w1 bs →
      Puts 5 Tryz.prog 179 #[.pointer (some ⟨p, 0, none⟩), s.v, .func (.func 180) #[] #[.pointer (some ⟨w.heap.size, 0, none⟩)]] B p w1 bs (listB (fun x : Int => [x % 256]) s.xs)) :=
    fun w1 hc hk hfr hwr => each_byte B p s (fun x : Int => [x % 256]) _ w0 w1 bs hB hs (hd.out.trans (hfr.below hBp (by omega))) hwr hl' (hf.out w1 hc hk)
  go_enter Tryz.func121, Tryz.ntmps121
  go_wp2_with (go_at_call 179; refine (hE.out _ (by simp) inferInstance (by with_reducible repeat' (first | exact Fr.refl | exact Hid.out (by assumption) | refine Fr.alloc ?_ _ | refine fr_ext _ ?_ | refine fr_wx _ ?_ | refine Fr.drew ?_)) (by with_reducible repeat' (first | exact Hid.out (by assumption) | refine Wr.alloc ?_ _ | refine Wr.ext _ ?_ | refine Wr.drew ?_))).go.mono ?_; rintro e w' ⟨rfl, y, rfl, hy⟩)
  go_end0
  exact ⟨rfl, (by with_reducible repeat' (first | exact Fr.refl | exact Hid.out (by assumption) | refine Fr.alloc ?_ _ | refine fr_ext _ ?_ | refine fr_wx _ ?_ | refine Fr.drew ?_)), hy⟩
end Go.Proofs.YthagkijplklemaaGreatDoor
end

section
namespace Go.Proofs.YthagkijplklemaaGreatDoor
open Go.ChangeShapes Go.WideShapes Go.ChangeAt Go.RowKit Go.Sc
instance : NeT 59 5 := ⟨by decide⟩
instance : NeT 49 5 := ⟨by decide⟩
instance : NeT 55 5 := ⟨by decide⟩
instance : NeT 61 5 := ⟨by decide⟩
instance : NeT 63 5 := ⟨by decide⟩
instance : NeT 29 5 := ⟨by decide⟩
instance : NeT 112 5 := ⟨by decide⟩
abbrev byteB (n : Int) : List Int := [n % 256]
def imB (y : Im) : List Int := [y.i.p % 256, y.i.c % 256] ++ listB byteB y.ms.xs
theorem int_each (B p : Nat) (s : Sl Int) (w0 : World) (hB : B = w0.heap.size) (hs : Hid (Ints w0 s)) : Hid (∀ (w1 : World) (bs : List Int), Below B w0 w1 → Wr 5 B p w1 bs → bs.length + (listB byteB s.xs).length ≤ 1099511627776 →
    Puts 5 Tryz.prog 184 #[.pointer (some ⟨p, 0, none⟩), s.v, .func (.func 185) #[.pointer (some ⟨p, 0, none⟩)] #[]] B p w1 bs (listB byteB s.xs)) :=
  fun w1 bs hd hw hl => each_int B p s byteB w0 w1 bs hB hs hd hw (by simp only [listB, List.length_cons] at hl; omega) (fun x W cs _ _ hw hl => number_any B p x W cs hw hl)
set_option maxHeartbeats 1000000 in
theorem wclass1_any (B p cb : Nat) (y : Im) (w0 w : World) (bs : List Int) (hB : B = w0.heap.size) (hy : Hid (y.Ok w0)) (hd : Hid (Below B w0 w)) (hc : w.cell? ⟨cb, 0, none⟩ = some (.pointer (some ⟨p, 0, none⟩))) (hk : Kp 5 B p cb w)
    (hw : Hid (Wr 5 B p w bs)) (hl : bs.length + (imB y).length ≤ 1099511627776) :
    Puts 5 Tryz.prog 187 #[y.v, .pointer (some ⟨cb, 0, none⟩)] B p w bs (imB y) := by
  unfold Puts
  haveI : InW p w := ⟨hw.out.lt⟩
  haveI : InW cb w := ⟨hk.lt⟩
  haveI := hk
  have hBp := hw.out.le
  have hpw := hw.out.lt
  have hE := int_each B p y.ms w0 hB hy.out.2.2
  have hl1 : bs.length + 2 ≤ 1099511627776 := by simp [imB] at hl; omega
  have hl2 : (bs ++ [y.i.p % 256, y.i.c % 256]).length + (listB byteB y.ms.xs).length ≤ 1099511627776 := by simp only [imB, List.length_append] at hl ⊢; omega
  go_enter Tryz.func187, Tryz.ntmps187
  go_wp2_with (go_at_call 182; refine (ref_any B p y.i _ bs (hid (by with_reducible repeat' (first | exact Hid.out (by assumption) | refine Wr.alloc ?_ _ | refine Wr.ext _ ?_ | refine Wr.drew ?_))) hl1).go.mono ?_; rintro e w' ⟨rfl, z, rfl, hz⟩)
  have hz' := hid hz
  go_wp2_with (go_at_call 184; refine (hE.out _ (bs ++ [y.i.p % 256, y.i.c % 256]) (hd.out.trans (Fr.below (p := p) (U := 5) (by with_reducible repeat' (first | exact Fr.refl | exact Hid.out (by assumption) | refine Fr.alloc ?_ _ | refine fr_ext _ ?_ | refine fr_wx _ ?_ | refine Fr.drew ?_)) hBp (by omega))) (by with_reducible repeat' (first | exact Hid.out (by assumption) | refine Wr.alloc ?_ _ | refine Wr.ext _ ?_ | refine Wr.drew ?_)) hl2).go.mono ?_; rintro e w' ⟨rfl, z2, rfl, hz2⟩)
  go_end0
  exact ⟨rfl, (by with_reducible repeat' (first | exact Fr.refl | exact Hid.out (by assumption) | refine Fr.alloc ?_ _ | refine fr_ext _ ?_ | refine fr_wx _ ?_ | refine Fr.drew ?_)), hz2.eq (by simp [imB])⟩
end Go.Proofs.YthagkijplklemaaGreatDoor
end

section
namespace Go.Proofs.YthagkijplklemaaGreatDoor
open Go.ChangeShapes Go.WideShapes Go.ChangeAt Go.RowKit Go.Sc
abbrev rfB (r : Rf) : List Int := [r.p % 256, r.c % 256]
theorem typB_le (t : Ty) : (typB t).length ≤ 3 := by unfold typB; split <;> simp
theorem len_le_flatMap {α : Type} {F : α → List Int} {xs : List α} {x : α} (h : x ∈ xs) : (F x).length ≤ (xs.flatMap F).length := by
  obtain ⟨a, b, rfl⟩ := List.append_of_mem h
  simp; omega
theorem rf_each (B p : Nat) (s : Sl Rf) (w0 : World) (hB : B = w0.heap.size) (hs : Hid (s.Ok eRf 2 w0)) : Hid (∀ (w1 : World) (bs : List Int), Below B w0 w1 → Wr 5 B p w1 bs → bs.length + (listB rfB s.xs).length ≤ 1099511627776 →
    Puts 5 Tryz.prog 183 #[.pointer (some ⟨p, 0, none⟩), s.v, .func (.func 182) #[.pointer (some ⟨p, 0, none⟩)] #[]] B p w1 bs (listB rfB s.xs)) :=
  fun w1 bs hd hw hl => each_rf B p s rfB w0 w1 bs hB hs hd hw (by simp only [listB, List.length_cons] at hl; omega) (fun x W cs _ _ hw hl => ref_any B p x W cs hw hl)
theorem im_each (B p cb : Nat) (s : Sl Im) (w0 : World) (hB : B = w0.heap.size) (hs : Hid (s.Ok eIm 3 w0)) : Hid (∀ (w1 : World) (bs : List Int), w1.cell? ⟨cb, 0, none⟩ = some (.pointer (some ⟨p, 0, none⟩)) → Kp 5 B p cb w1 → Below B w0 w1 → Wr 5 B p w1 bs → bs.length + (listB imB s.xs).length ≤ 1099511627776 →
    Puts 5 Tryz.prog 186 #[.pointer (some ⟨p, 0, none⟩), s.v, .func (.func 187) #[] #[.pointer (some ⟨cb, 0, none⟩)]] B p w1 bs (listB imB s.xs)) :=
  fun w1 bs hc hk hd hw hl => each_im B p s imB _ w0 w1 bs hB hs hd hw (by simp only [listB, List.length_cons] at hl; omega) (fun x W cs hm hf hW hl => by
    obtain ⟨j, hj⟩ := List.mem_iff_getElem?.1 hm
    have hlt := hw.lt
    have hle := hw.le
    exact wclass1_any B p cb x w0 W cs hB (hs.out.at_ j x hj).1 (hd.trans (hf.below hle (by omega))) ((fr_cell hf hk).trans hc) (fr_kp hf hk) hW hl)
theorem ty_each (B p : Nat) (s : Sl Ty) (w0 : World) (hB : B = w0.heap.size) (hs : Hid (s.Ok eTy 3 w0)) : Hid (∀ (w1 : World) (bs : List Int), Below B w0 w1 → Wr 5 B p w1 bs → bs.length + (listB typB s.xs).length ≤ 1099511627776 →
    Puts 5 Tryz.prog 128 #[.pointer (some ⟨p, 0, none⟩), s.v, .func (.func 129) #[.pointer (some ⟨p, 0, none⟩)] #[]] B p w1 bs (listB typB s.xs)) :=
  fun w1 bs hd hw hl => each_ty B p s typB w0 w1 bs hB hs hd hw (by simp only [listB, List.length_cons] at hl; omega) (fun x W cs _ _ hw hl => typ_any B p x W cs hw hl)
theorem flagT (n : Int) (w : World) : Gives Tryz.prog 181 #[.bool true, .int .i64 n] w (.int .i64 n) := by simpa using flag_any true n w
theorem flagF (n : Int) (w : World) : Gives Tryz.prog 181 #[.bool false, .int .i64 n] w (.int .i64 0) := by simpa using flag_any false n w
def clB (x : Cl) : List Int := [(if x.isI then 1 else 0)] ++ rfB x.super ++ listB rfB x.ext.xs ++ listB typB x.fields.xs ++ listB byteB x.virt.xs ++ listB imB x.impls.xs
end Go.Proofs.YthagkijplklemaaGreatDoor
end

section
namespace Go.Proofs.YthagkijplklemaaGreatDoor
open Go.ChangeShapes Go.WideShapes Go.ChangeAt Go.RowKit Go.Sc
abbrev wideB (x : Int) : List Int := [x / 256 % 256, x % 256]
set_option maxHeartbeats 1000000 in
set_option maxRecDepth 20000 in
theorem wide_any (B p b : Nat) (xs : List Int) (w : World) (bs : List Int) (hk : Kp 5 B p b w) (hc : Hid (∀ (j : Nat) (x : Int), xs[j]? = some x → w.cell? ⟨b, j, none⟩ = some (.int .i64 x)))
    (hw : Hid (Wr 5 B p w bs)) (hl : bs.length + 2 * xs.length ≤ 1099511627776) :
    Puts 5 Tryz.prog 189 #[.pointer (some ⟨p, 0, none⟩), .slice (some ⟨b, 0, none⟩) xs.length xs.length] B p w bs (xs.flatMap wideB) := by
  unfold Puts
  have hpw := hw.out.lt
  go_enter Tryz.func189, Tryz.ntmps189
  go_wp2_with fail
  go_loopw [8] (fun i wr => ∃ k : Nat, k ≤ xs.length ∧ i = .int .i64 k ∧ Fr 5 B p w wr ∧ Wr 5 B p wr (bs ++ (xs.take k).flatMap wideB)) (fun i _ => xs.length - (intOf i).toNat)
  case atStart => exact ⟨0, Nat.zero_le _, rfl, .refl, by simpa using hw.out⟩
  case round =>
    obtain ⟨k, hk', rfl, hf, hr⟩ := hrel
    by_cases hlt : k < xs.length
    · obtain ⟨x, hx⟩ := getElem?_of_lt hlt
      have h0 : wr.cell? ⟨b, k, none⟩ = some (.int .i64 x) := (World.cell?_of_block (w := w) (hf.block b hk.lt hk.ne hk.nu)).trans (hc.out k x hx)
      haveI : InW p wr := ⟨hr.lt⟩
      have hlen : ∀ ys : List Int, (ys.flatMap wideB).length = 2 * ys.length := fun ys => by induction ys with
        | nil => rfl
        | cons a l ih => simp only [List.flatMap_cons, List.length_append, ih, List.length_cons]; simp; omega
      have hn : (bs ++ (xs.take k).flatMap wideB).length + 2 ≤ 1099511627776 := by rw [List.length_append, hlen, List.length_take]; omega
      have hk1 : (0 : Int) ≤ (k : Int) := by omega
      have hk2 : (k : Int) < (xs.length : Int) := by omega
      have HR := hid hr
      have HF := hid hf
      have HX := hid hx
      clear hr hf hx hlen
      go_wp2_with ((go_at_call 120; refine (put2 B p _ (x / 256) (x) _ (bs ++ (xs.take k).flatMap wideB) inferInstance (by simp) (by simp) (by with_reducible repeat' (first | exact Hid.out (by assumption) | refine Wr.alloc ?_ _ | refine Wr.ext _ ?_ | refine Wr.drew ?_)) (hn)).go.mono ?_; rintro e w' ⟨rfl, y, rfl, hy⟩))
      go_roundw
      case rel => exact ⟨k + 1, by omega, by go_num, (by with_reducible repeat' (first | exact Fr.refl | exact Hid.out (by assumption) | refine Fr.alloc ?_ _ | refine fr_ext _ ?_ | refine fr_wx _ ?_ | refine Fr.drew ?_)), hy.eq (by rw [List.take_add_one, HX.out]; simp [List.flatMap_append])⟩
      case measure => simp [intOf]; omega
    · go_wp2_with fail
      go_end0
      obtain rfl : k = xs.length := by omega
      exact ⟨rfl, hf, hr.eq (by simp)⟩
end Go.Proofs.YthagkijplklemaaGreatDoor
end
