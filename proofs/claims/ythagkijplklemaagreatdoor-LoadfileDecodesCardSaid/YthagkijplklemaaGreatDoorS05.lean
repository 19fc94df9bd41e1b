/- The program's writer: ref, typ. The program's writer: lists. -/
import Derived.Test.YthagkijplklemaaGreatDoorS04
import Derived.Deep.RegionHeld3
import Derived.BigGuardPart
section
namespace Go.Proofs.YthagkijplklemaaGreatDoor
open Go.ChangeShapes Go.WideShapes Go.ChangeAt Go.RowKit Go.Sc
instance : NeT 3 5 := ⟨by decide⟩
instance : NeT 44 5 := ⟨by decide⟩
instance : NeT 51 5 := ⟨by decide⟩
theorem put1 (B p b : Nat) (x : Int) (w : World) (bs : List Int) (hk : Kp 5 B p b w) (h0 : w.cell? ⟨b, 0, none⟩ = some (.int .i64 x)) (hw : Wr 5 B p w bs) (hl : bs.length + 1 ≤ 1099511627776) :
    Puts 5 Tryz.prog 120 #[.pointer (some ⟨p, 0, none⟩), .slice (some ⟨b, 0, none⟩) 1 1] B p w bs [x % 256] :=
  put_any B p b [x] w bs hk (fun j y hj => by
    match j, hj with
    | 0, hj => simp at hj; subst hj; exact h0) hw hl
theorem put2 (B p b : Nat) (x y : Int) (w : World) (bs : List Int) (hk : Kp 5 B p b w) (h0 : w.cell? ⟨b, 0, none⟩ = some (.int .i64 x)) (h1 : w.cell? ⟨b, 1, none⟩ = some (.int .i64 y)) (hw : Wr 5 B p w bs) (hl : bs.length + 2 ≤ 1099511627776) :
    Puts 5 Tryz.prog 120 #[.pointer (some ⟨p, 0, none⟩), .slice (some ⟨b, 0, none⟩) 2 2] B p w bs [x % 256, y % 256] :=
  put_any B p b [x, y] w bs hk (fun j z hj => by
    match j, hj with
    | 0, hj => simp at hj; subst hj; exact h0
    | 1, hj => simp at hj; subst hj; exact h1) hw hl
set_option maxHeartbeats 1000000 in
theorem ref_any (B p : Nat) (r : Rf) (w : World) (bs : List Int) (hw : Hid (Wr 5 B p w bs)) (hl : bs.length + 2 ≤ 1099511627776) :
    Puts 5 Tryz.prog 182 #[.pointer (some ⟨p, 0, none⟩), r.v] B p w bs [r.p % 256, r.c % 256] := by
  unfold Puts
  haveI : InW p w := ⟨hw.out.lt⟩
  go_enter Tryz.func182, Tryz.ntmps182
  go_wp2_with fail
  go_region_held3 (fun w' => w'.cell? ⟨w.heap.size, 0, none⟩ = some (.int .i64 r.p) ∧ w'.cell? ⟨w.heap.size, 1, none⟩ = some (.int .i64 r.c)) (first | (go_keep) | (constructor <;> simp [Wx.cell, alloc_cell_in])) (first | (go_at_call 120; refine (put2 B p _ (r.p) (r.c) _ (bs) inferInstance (by simp) (by simp) (by with_reducible repeat' (first | exact Hid.out (by assumption) | refine Wr.alloc ?_ _ | refine Wr.ext _ ?_ | refine Wr.drew ?_)) (hl)).go.mono ?_; rintro e w' ⟨rfl, y, rfl, hy⟩))
  go_end0
  exact ⟨rfl, (by with_reducible repeat' (first | exact Fr.refl | exact Hid.out (by assumption) | refine Fr.alloc ?_ _ | refine fr_ext _ ?_ | refine fr_wx _ ?_ | refine Fr.drew ?_)), hy⟩
def typB (t : Ty) : List Int := (t.k % 256) :: if t.k = 5 then [t.c.p % 256, t.c.c % 256] else []
set_option maxHeartbeats 1000000 in
theorem typ_any (B p : Nat) (t : Ty) (w : World) (bs : List Int) (hw : Hid (Wr 5 B p w bs)) (hl : bs.length + (typB t).length ≤ 1099511627776) :
    Puts 5 Tryz.prog 129 #[.pointer (some ⟨p, 0, none⟩), t.v] B p w bs (typB t) := by
  unfold Puts
  haveI : InW p w := ⟨hw.out.lt⟩
  have hl1 : bs.length + 1 ≤ 1099511627776 := by simp [typB] at hl; omega
  have hl2 : t.k = 5 → bs.length + 3 ≤ 1099511627776 := fun h => by simp [typB, h] at hl; omega
  have HL2 := hid hl2
  clear hl hl2
  go_enter Tryz.func129, Tryz.ntmps129
  go_wp2_with fail
  go_region_held3 (fun w' => w'.cell? ⟨w.heap.size, 0, none⟩ = some (.int .i64 t.k) ∧ w'.cell? ⟨w.heap.size, 1, none⟩ = some (.int .i64 t.c.p) ∧ w'.cell? ⟨w.heap.size, 2, none⟩ = some (.int .i64 t.c.c)) (first | (go_keep) | (refine ⟨?_, ?_, ?_⟩ <;> simp [Wx.cell, alloc_cell_in])) (first | (go_at_call 120; refine (put1 B p _ (t.k) _ (bs) inferInstance (by simp) (by with_reducible repeat' (first | exact Hid.out (by assumption) | refine Wr.alloc ?_ _ | refine Wr.ext _ ?_ | refine Wr.drew ?_)) (hl1)).go.mono ?_; rintro e w' ⟨rfl, y, rfl, hy⟩))
  have hw2 := hid hy
  go_wp2_with (go_at_call 182; refine (ref_any B p t.c _ (bs ++ [t.k % 256]) hw2 (by have := HL2.out (by first | assumption | simp_all); simp; omega)).go.mono ?_; rintro e w' ⟨rfl, y2, rfl, hy2⟩)
  all_goals
    go_end0
    first
      | exact ⟨rfl, (by with_reducible repeat' (first | exact Fr.refl | exact Hid.out (by assumption) | refine Fr.alloc ?_ _ | refine fr_ext _ ?_ | refine fr_wx _ ?_ | refine Fr.drew ?_)), hy2.eq (by unfold typB; simp_all)⟩
      | exact ⟨rfl, (by with_reducible repeat' (first | exact Fr.refl | exact Hid.out (by assumption) | refine Fr.alloc ?_ _ | refine fr_ext _ ?_ | refine fr_wx _ ?_ | refine Fr.drew ?_)), hy.eq (by unfold typB; simp_all)⟩
end Go.Proofs.YthagkijplklemaaGreatDoor
end

section
namespace Go.Proofs.YthagkijplklemaaGreatDoor
open Go.ChangeShapes Go.WideShapes Go.ChangeAt Go.RowKit Go.Sc
set_option maxHeartbeats 1000000 in
set_option maxRecDepth 20000 in
theorem each_rf (B p : Nat) (s : Sl Rf) (F : Rf → List Int)  (w0 w : World) (bs : List Int) (hB : B = w0.heap.size) (hs : Hid (s.Ok eRf 2 w0)) (hd : Hid (Below B w0 w)) (hw : Hid (Wr 5 B p w bs))
    (hl : bs.length + 1 + (s.xs.flatMap F).length ≤ 1099511627776)
    (hf : Hid (∀ (x : Rf) (W : World) (cs : List Int), x ∈ s.xs → Fr 5 B p w W → Wr 5 B p W cs → cs.length + (F x).length ≤ 1099511627776 → Puts 5 Tryz.prog 182 #[.pointer (some ⟨p, 0, none⟩), x.v] B p W cs (F x))) :
    Puts 5 Tryz.prog 183 #[.pointer (some ⟨p, 0, none⟩), s.v, .func (.func 182) #[.pointer (some ⟨p, 0, none⟩)] #[]] B p w bs (((s.xs.length : Int) % 256) :: s.xs.flatMap F) := by
  obtain ⟨a, c, xs⟩ := s
  have hle := hs.out.le
  have hmx := hs.out.max
  simp only at hle hmx hl
  show Puts _ _ _ #[_, .slice a xs.length c, .func (.func 182) _ _] _ _ _ _ _
  unfold Puts
  haveI : InW p w := ⟨hw.out.lt⟩
  have hBp := hw.out.le
  have hpw := hw.out.lt
  go_enter Tryz.func183, Tryz.ntmps183
  go_wp2_with ((go_at_call 120; refine (put1 B p _ ((xs.length : Int)) _ (bs) inferInstance (by simp) (by with_reducible repeat' (first | exact Hid.out (by assumption) | refine Wr.alloc ?_ _ | refine Wr.ext _ ?_ | refine Wr.drew ?_)) (by omega)).go.mono ?_; rintro e w' ⟨rfl, y, rfl, hy⟩))
  go_loopw [17] (fun i wr => ∃ k : Nat, k ≤ xs.length ∧ i = .int .i64 k ∧ Fr 5 B p w wr ∧ Wr 5 B p wr (bs ++ [(xs.length : Int) % 256] ++ (xs.take k).flatMap F)) (fun i _ => xs.length - (intOf i).toNat)
  case atStart => exact ⟨0, Nat.zero_le _, rfl, (by with_reducible repeat' (first | exact Fr.refl | exact Hid.out (by assumption) | refine Fr.alloc ?_ _ | refine fr_ext _ ?_ | refine fr_wx _ ?_ | refine Fr.drew ?_)), by simpa using hy⟩
  case round =>
    obtain ⟨k, hk, rfl, hfr, hwr⟩ := hrel
    clear hy
    by_cases hlt : k < xs.length
    · obtain ⟨y, hy⟩ := getElem?_of_lt hlt
      obtain ⟨hok, b, off, hba, hbl, hc⟩ := hs.out.at_ k y hy
      simp only at hba
      subst hba
      have hbw : Below B w0 wr := hd.out.trans (hfr.below hBp (by omega))
      have hc' : ∀ (j : Nat) (v : Value), (El.cells eRf y)[j]? = some v → wr.cell? ⟨b, off + k * 2 + j, none⟩ = some v := fun j v hv => (hbw.cell (p := ⟨b, _, none⟩) (by rw [hB]; exact hbl)).trans (hc j v hv)
      have h0 := hc' 0 _ rfl; have h1 := hc' 1 _ rfl; simp only [Nat.add_zero] at h0
      have hsp : xs.take (k + 1) = xs.take k ++ [y] := by rw [List.take_add_one, hy]; rfl
      have hlen : ((xs.take k).flatMap F).length + (F y).length ≤ (xs.flatMap F).length := by
        have e : xs.flatMap F = (xs.take (k + 1)).flatMap F ++ (xs.drop (k + 1)).flatMap F := by rw [← List.flatMap_append, List.take_append_drop]
        rw [e, hsp, List.flatMap_append]
        simp
      have hlen2 : (bs ++ [(xs.length : Int) % 256] ++ (xs.take k).flatMap F).length + (F y).length ≤ 1099511627776 := by
        simp only [List.length_append, List.length_singleton]; omega
      have hmem : y ∈ xs := List.mem_of_getElem? hy
      have HW := hid hwr
      have HL := hid hlen2
      have HF := hid hfr
      have HS := hid hsp
      have HM := hid hmem
      clear hc hc' hok hy hbl hfr hwr hsp hlen hlen2 hmem hbw
      have hk1 : (0 : Int) ≤ (k : Int) := by omega
      have hk2 : (k : Int) < (xs.length : Int) := by omega
      go_wp2_with (go_at_call 182; refine (hf.out y _ (bs ++ [(xs.length : Int) % 256] ++ (xs.take k).flatMap F) HM.out (by with_reducible repeat' (first | exact Fr.refl | exact Hid.out (by assumption) | refine Fr.alloc ?_ _ | refine fr_ext _ ?_ | refine fr_wx _ ?_ | refine Fr.drew ?_)) (by with_reducible repeat' (first | exact Hid.out (by assumption) | refine Wr.alloc ?_ _ | refine Wr.ext _ ?_ | refine Wr.drew ?_)) HL.out).go.mono ?_; rintro e w' ⟨rfl, z, rfl, hz⟩)
      go_roundw
      case rel => exact ⟨k + 1, by omega, by go_num, (by with_reducible repeat' (first | exact Fr.refl | exact Hid.out (by assumption) | refine Fr.alloc ?_ _ | refine fr_ext _ ?_ | refine fr_wx _ ?_ | refine Fr.drew ?_)), hz.eq (by rw [HS.out, List.flatMap_append]; simp)⟩
      case measure => simp [intOf]; omega
    · go_wp2_with fail
      go_end0
      obtain rfl : k = xs.length := by omega
      exact ⟨rfl, hfr, hwr.eq (by simp)⟩
set_option maxHeartbeats 1000000 in
set_option maxRecDepth 20000 in
theorem each_ty (B p : Nat) (s : Sl Ty) (F : Ty → List Int)  (w0 w : World) (bs : List Int) (hB : B = w0.heap.size) (hs : Hid (s.Ok eTy 3 w0)) (hd : Hid (Below B w0 w)) (hw : Hid (Wr 5 B p w bs))
    (hl : bs.length + 1 + (s.xs.flatMap F).length ≤ 1099511627776)
    (hf : Hid (∀ (x : Ty) (W : World) (cs : List Int), x ∈ s.xs → Fr 5 B p w W → Wr 5 B p W cs → cs.length + (F x).length ≤ 1099511627776 → Puts 5 Tryz.prog 129 #[.pointer (some ⟨p, 0, none⟩), x.v] B p W cs (F x))) :
    Puts 5 Tryz.prog 128 #[.pointer (some ⟨p, 0, none⟩), s.v, .func (.func 129) #[.pointer (some ⟨p, 0, none⟩)] #[]] B p w bs (((s.xs.length : Int) % 256) :: s.xs.flatMap F) := by
  obtain ⟨a, c, xs⟩ := s
  have hle := hs.out.le
  have hmx := hs.out.max
  simp only at hle hmx hl
  show Puts _ _ _ #[_, .slice a xs.length c, .func (.func 129) _ _] _ _ _ _ _
  unfold Puts
  haveI : InW p w := ⟨hw.out.lt⟩
  have hBp := hw.out.le
  have hpw := hw.out.lt
  go_enter Tryz.func128, Tryz.ntmps128
  go_wp2_with ((go_at_call 120; refine (put1 B p _ ((xs.length : Int)) _ (bs) inferInstance (by simp) (by with_reducible repeat' (first | exact Hid.out (by assumption) | refine Wr.alloc ?_ _ | refine Wr.ext _ ?_ | refine Wr.drew ?_)) (by omega)).go.mono ?_; rintro e w' ⟨rfl, y, rfl, hy⟩))
  go_loopw [17] (fun i wr => ∃ k : Nat, k ≤ xs.length ∧ i = .int .i64 k ∧ Fr 5 B p w wr ∧ Wr 5 B p wr (bs ++ [(xs.length : Int) % 256] ++ (xs.take k).flatMap F)) (fun i _ => xs.length - (intOf i).toNat)
  case atStart => exact ⟨0, Nat.zero_le _, rfl, (by with_reducible repeat' (first | exact Fr.refl | exact Hid.out (by assumption) | refine Fr.alloc ?_ _ | refine fr_ext _ ?_ | refine fr_wx _ ?_ | refine Fr.drew ?_)), by simpa using hy⟩
  case round =>
    obtain ⟨k, hk, rfl, hfr, hwr⟩ := hrel
    clear hy
    by_cases hlt : k < xs.length
    · obtain ⟨y, hy⟩ := getElem?_of_lt hlt
      obtain ⟨hok, b, off, hba, hbl, hc⟩ := hs.out.at_ k y hy
      simp only at hba
      subst hba
      have hbw : Below B w0 wr := hd.out.trans (hfr.below hBp (by omega))
      have hc' : ∀ (j : Nat) (v : Value), (El.cells eTy y)[j]? = some v → wr.cell? ⟨b, off + k * 3 + j, none⟩ = some v := fun j v hv => (hbw.cell (p := ⟨b, _, none⟩) (by rw [hB]; exact hbl)).trans (hc j v hv)
      have h0 := hc' 0 _ rfl; have h1 := hc' 1 _ rfl; have h2 := hc' 2 _ rfl; simp only [Nat.add_zero] at h0
      have hsp : xs.take (k + 1) = xs.take k ++ [y] := by rw [List.take_add_one, hy]; rfl
      have hlen : ((xs.take k).flatMap F).length + (F y).length ≤ (xs.flatMap F).length := by
        have e : xs.flatMap F = (xs.take (k + 1)).flatMap F ++ (xs.drop (k + 1)).flatMap F := by rw [← List.flatMap_append, List.take_append_drop]
        rw [e, hsp, List.flatMap_append]
        simp
      have hlen2 : (bs ++ [(xs.length : Int) % 256] ++ (xs.take k).flatMap F).length + (F y).length ≤ 1099511627776 := by
        simp only [List.length_append, List.length_singleton]; omega
      have hmem : y ∈ xs := List.mem_of_getElem? hy
      have HW := hid hwr
      have HL := hid hlen2
      have HF := hid hfr
      have HS := hid hsp
      have HM := hid hmem
      clear hc hc' hok hy hbl hfr hwr hsp hlen hlen2 hmem hbw
      have hk1 : (0 : Int) ≤ (k : Int) := by omega
      have hk2 : (k : Int) < (xs.length : Int) := by omega
      go_wp2_with (go_at_call 129; refine (hf.out y _ (bs ++ [(xs.length : Int) % 256] ++ (xs.take k).flatMap F) HM.out (by with_reducible repeat' (first | exact Fr.refl | exact Hid.out (by assumption) | refine Fr.alloc ?_ _ | refine fr_ext _ ?_ | refine fr_wx _ ?_ | refine Fr.drew ?_)) (by with_reducible repeat' (first | exact Hid.out (by assumption) | refine Wr.alloc ?_ _ | refine Wr.ext _ ?_ | refine Wr.drew ?_)) HL.out).go.mono ?_; rintro e w' ⟨rfl, z, rfl, hz⟩)
      go_roundw
      case rel => exact ⟨k + 1, by omega, by go_num, (by with_reducible repeat' (first | exact Fr.refl | exact Hid.out (by assumption) | refine Fr.alloc ?_ _ | refine fr_ext _ ?_ | refine fr_wx _ ?_ | refine Fr.drew ?_)), hz.eq (by rw [HS.out, List.flatMap_append]; simp)⟩
      case measure => simp [intOf]; omega
    · go_wp2_with fail
      go_end0
      obtain rfl : k = xs.length := by omega
      exact ⟨rfl, hfr, hwr.eq (by simp)⟩
set_option maxHeartbeats 1000000 in
set_option maxRecDepth 20000 in
theorem each_int (B p : Nat) (s : Sl Int) (F : Int → List Int)  (w0 w : World) (bs : List Int) (hB : B = w0.heap.size) (hs : Hid (s.Ok eInt 1 w0)) (hd : Hid (Below B w0 w)) (hw : Hid (Wr 5 B p w bs))
    (hl : bs.length + 1 + (s.xs.flatMap F).length ≤ 1099511627776)
    (hf : Hid (∀ (x : Int) (W : World) (cs : List Int), x ∈ s.xs → Fr 5 B p w W → Wr 5 B p W cs → cs.length + (F x).length ≤ 1099511627776 → Puts 5 Tryz.prog 185 #[.pointer (some ⟨p, 0, none⟩), .int .i64 x] B p W cs (F x))) :
    Puts 5 Tryz.prog 184 #[.pointer (some ⟨p, 0, none⟩), s.v, .func (.func 185) #[.pointer (some ⟨p, 0, none⟩)] #[]] B p w bs (((s.xs.length : Int) % 256) :: s.xs.flatMap F) := by
  obtain ⟨a, c, xs⟩ := s
  have hle := hs.out.le
  have hmx := hs.out.max
  simp only at hle hmx hl
  show Puts _ _ _ #[_, .slice a xs.length c, .func (.func 185) _ _] _ _ _ _ _
  unfold Puts
  haveI : InW p w := ⟨hw.out.lt⟩
  have hBp := hw.out.le
  have hpw := hw.out.lt
  go_enter Tryz.func184, Tryz.ntmps184
  go_wp2_with ((go_at_call 120; refine (put1 B p _ ((xs.length : Int)) _ (bs) inferInstance (by simp) (by with_reducible repeat' (first | exact Hid.out (by assumption) | refine Wr.alloc ?_ _ | refine Wr.ext _ ?_ | refine Wr.drew ?_)) (by omega)).go.mono ?_; rintro e w' ⟨rfl, y, rfl, hy⟩))
  go_loopw [17] (fun i wr => ∃ k : Nat, k ≤ xs.length ∧ i = .int .i64 k ∧ Fr 5 B p w wr ∧ Wr 5 B p wr (bs ++ [(xs.length : Int) % 256] ++ (xs.take k).flatMap F)) (fun i _ => xs.length - (intOf i).toNat)
  case atStart => exact ⟨0, Nat.zero_le _, rfl, (by with_reducible repeat' (first | exact Fr.refl | exact Hid.out (by assumption) | refine Fr.alloc ?_ _ | refine fr_ext _ ?_ | refine fr_wx _ ?_ | refine Fr.drew ?_)), by simpa using hy⟩
  case round =>
    obtain ⟨k, hk, rfl, hfr, hwr⟩ := hrel
    clear hy
    by_cases hlt : k < xs.length
    · obtain ⟨y, hy⟩ := getElem?_of_lt hlt
      obtain ⟨hok, b, off, hba, hbl, hc⟩ := hs.out.at_ k y hy
      simp only at hba
      subst hba
      have hbw : Below B w0 wr := hd.out.trans (hfr.below hBp (by omega))
      have hc' : ∀ (j : Nat) (v : Value), (El.cells eInt y)[j]? = some v → wr.cell? ⟨b, off + k * 1 + j, none⟩ = some v := fun j v hv => (hbw.cell (p := ⟨b, _, none⟩) (by rw [hB]; exact hbl)).trans (hc j v hv)
      have h0 := hc' 0 _ rfl; simp only [Nat.add_zero, Nat.mul_one] at h0
      have hsp : xs.take (k + 1) = xs.take k ++ [y] := by rw [List.take_add_one, hy]; rfl
      have hlen : ((xs.take k).flatMap F).length + (F y).length ≤ (xs.flatMap F).length := by
        have e : xs.flatMap F = (xs.take (k + 1)).flatMap F ++ (xs.drop (k + 1)).flatMap F := by rw [← List.flatMap_append, List.take_append_drop]
        rw [e, hsp, List.flatMap_append]
        simp
      have hlen2 : (bs ++ [(xs.length : Int) % 256] ++ (xs.take k).flatMap F).length + (F y).length ≤ 1099511627776 := by
        simp only [List.length_append, List.length_singleton]; omega
      have hmem : y ∈ xs := List.mem_of_getElem? hy
      have HW := hid hwr
      have HL := hid hlen2
      have HF := hid hfr
      have HS := hid hsp
      have HM := hid hmem
      clear hc hc' hok hy hbl hfr hwr hsp hlen hlen2 hmem hbw
      have hk1 : (0 : Int) ≤ (k : Int) := by omega
      have hk2 : (k : Int) < (xs.length : Int) := by omega
      go_wp2_with (go_at_call 185; refine (hf.out y _ (bs ++ [(xs.length : Int) % 256] ++ (xs.take k).flatMap F) HM.out (by with_reducible repeat' (first | exact Fr.refl | exact Hid.out (by assumption) | refine Fr.alloc ?_ _ | refine fr_ext _ ?_ | refine fr_wx _ ?_ | refine Fr.drew ?_)) (by with_reducible repeat' (first | exact Hid.out (by assumption) | refine Wr.alloc ?_ _ | refine Wr.ext _ ?_ | refine Wr.drew ?_)) HL.out).go.mono ?_; rintro e w' ⟨rfl, z, rfl, hz⟩)
      go_roundw
      case rel => exact ⟨k + 1, by omega, by go_num, (by with_reducible repeat' (first | exact Fr.refl | exact Hid.out (by assumption) | refine Fr.alloc ?_ _ | refine fr_ext _ ?_ | refine fr_wx _ ?_ | refine Fr.drew ?_)), hz.eq (by rw [HS.out, List.flatMap_append]; simp)⟩
      case measure => simp [intOf]; omega
    · go_wp2_with fail
      go_end0
      obtain rfl : k = xs.length := by omega
      exact ⟨rfl, hfr, hwr.eq (by simp)⟩
set_option maxHeartbeats 1000000 in
set_option maxRecDepth 20000 in
theorem each_byte (B p : Nat) (s : Sl Int) (F : Int → List Int) (c0 : Value) (w0 w : World) (bs : List Int) (hB : B = w0.heap.size) (hs : Hid (s.Ok eByte 1 w0)) (hd : Hid (Below B w0 w)) (hw : Hid (Wr 5 B p w bs))
    (hl : bs.length + 1 + (s.xs.flatMap F).length ≤ 1099511627776)
    (hf : Hid (∀ (x : Int) (W : World) (cs : List Int), x ∈ s.xs → Fr 5 B p w W → Wr 5 B p W cs → cs.length + (F x).length ≤ 1099511627776 → Puts 5 Tryz.prog 180 #[.int .u8 x, c0] B p W cs (F x))) :
    Puts 5 Tryz.prog 179 #[.pointer (some ⟨p, 0, none⟩), s.v, .func (.func 180) #[] #[c0]] B p w bs (((s.xs.length : Int) % 256) :: s.xs.flatMap F) := by
  obtain ⟨a, c, xs⟩ := s
  have hle := hs.out.le
  have hmx := hs.out.max
  simp only at hle hmx hl
  show Puts _ _ _ #[_, .slice a xs.length c, .func (.func 180) _ _] _ _ _ _ _
  unfold Puts
  haveI : InW p w := ⟨hw.out.lt⟩
  have hBp := hw.out.le
  have hpw := hw.out.lt
  go_enter Tryz.func179, Tryz.ntmps179
  go_wp2_with ((go_at_call 120; refine (put1 B p _ ((xs.length : Int)) _ (bs) inferInstance (by simp) (by with_reducible repeat' (first | exact Hid.out (by assumption) | refine Wr.alloc ?_ _ | refine Wr.ext _ ?_ | refine Wr.drew ?_)) (by omega)).go.mono ?_; rintro e w' ⟨rfl, y, rfl, hy⟩))
  go_loopw [17] (fun i wr => ∃ k : Nat, k ≤ xs.length ∧ i = .int .i64 k ∧ Fr 5 B p w wr ∧ Wr 5 B p wr (bs ++ [(xs.length : Int) % 256] ++ (xs.take k).flatMap F)) (fun i _ => xs.length - (intOf i).toNat)
  case atStart => exact ⟨0, Nat.zero_le _, rfl, (by with_reducible repeat' (first | exact Fr.refl | exact Hid.out (by assumption) | refine Fr.alloc ?_ _ | refine fr_ext _ ?_ | refine fr_wx _ ?_ | refine Fr.drew ?_)), by simpa using hy⟩
  case round =>
    obtain ⟨k, hk, rfl, hfr, hwr⟩ := hrel
    clear hy
    by_cases hlt : k < xs.length
    · obtain ⟨y, hy⟩ := getElem?_of_lt hlt
      obtain ⟨hok, b, off, hba, hbl, hc⟩ := hs.out.at_ k y hy
      simp only at hba
      subst hba
      have hbw : Below B w0 wr := hd.out.trans (hfr.below hBp (by omega))
      have hc' : ∀ (j : Nat) (v : Value), (El.cells eByte y)[j]? = some v → wr.cell? ⟨b, off + k * 1 + j, none⟩ = some v := fun j v hv => (hbw.cell (p := ⟨b, _, none⟩) (by rw [hB]; exact hbl)).trans (hc j v hv)
      have h0 := hc' 0 _ rfl; simp only [Nat.add_zero, Nat.mul_one] at h0
      have hsp : xs.take (k + 1) = xs.take k ++ [y] := by rw [List.take_add_one, hy]; rfl
      have hlen : ((xs.take k).flatMap F).length + (F y).length ≤ (xs.flatMap F).length := by
        have e : xs.flatMap F = (xs.take (k + 1)).flatMap F ++ (xs.drop (k + 1)).flatMap F := by rw [← List.flatMap_append, List.take_append_drop]
        rw [e, hsp, List.flatMap_append]
        simp
      have hlen2 : (bs ++ [(xs.length : Int) % 256] ++ (xs.take k).flatMap F).length + (F y).length ≤ 1099511627776 := by
        simp only [List.length_append, List.length_singleton]; omega
      have hmem : y ∈ xs := List.mem_of_getElem? hy
      have HW := hid hwr
      have HL := hid hlen2
      have HF := hid hfr
      have HS := hid hsp
      have HM := hid hmem
      clear hc hc' hok hy hbl hfr hwr hsp hlen hlen2 hmem hbw
      have hk1 : (0 : Int) ≤ (k : Int) := by omega
      have hk2 : (k : Int) < (xs.length : Int) := by omega
      go_wp2_with (go_at_call 180; refine (hf.out y _ (bs ++ [(xs.length : Int) % 256] ++ (xs.take k).flatMap F) HM.out (by with_reducible repeat' (first | exact Fr.refl | exact Hid.out (by assumption) | refine Fr.alloc ?_ _ | refine fr_ext _ ?_ | refine fr_wx _ ?_ | refine Fr.drew ?_)) (by with_reducible repeat' (first | exact Hid.out (by assumption) | refine Wr.alloc ?_ _ | refine Wr.ext _ ?_ | refine Wr.drew ?_)) HL.out).go.mono ?_; rintro e w' ⟨rfl, z, rfl, hz⟩)
      go_roundw
      case rel => exact ⟨k + 1, by omega, by go_num, (by with_reducible repeat' (first | exact Fr.refl | exact Hid.out (by assumption) | refine Fr.alloc ?_ _ | refine fr_ext _ ?_ | refine fr_wx _ ?_ | refine Fr.drew ?_)), hz.eq (by rw [HS.out, List.flatMap_append]; simp)⟩
      case measure => simp [intOf]; omega
    · go_wp2_with fail
      go_end0
      obtain rfl : k = xs.length := by omega
      exact ⟨rfl, hfr, hwr.eq (by simp)⟩
set_option maxHeartbeats 1000000 in
set_option maxRecDepth 20000 in
theorem each_im (B p : Nat) (s : Sl Im) (F : Im → List Int) (c0 : Value) (w0 w : World) (bs : List Int) (hB : B = w0.heap.size) (hs : Hid (s.Ok eIm 3 w0)) (hd : Hid (Below B w0 w)) (hw : Hid (Wr 5 B p w bs))
    (hl : bs.length + 1 + (s.xs.flatMap F).length ≤ 1099511627776)
    (hf : Hid (∀ (x : Im) (W : World) (cs : List Int), x ∈ s.xs → Fr 5 B p w W → Wr 5 B p W cs → cs.length + (F x).length ≤ 1099511627776 → Puts 5 Tryz.prog 187 #[x.v, c0] B p W cs (F x))) :
    Puts 5 Tryz.prog 186 #[.pointer (some ⟨p, 0, none⟩), s.v, .func (.func 187) #[] #[c0]] B p w bs (((s.xs.length : Int) % 256) :: s.xs.flatMap F) := by
  obtain ⟨a, c, xs⟩ := s
  have hle := hs.out.le
  have hmx := hs.out.max
  simp only at hle hmx hl
  show Puts _ _ _ #[_, .slice a xs.length c, .func (.func 187) _ _] _ _ _ _ _
  unfold Puts
  haveI : InW p w := ⟨hw.out.lt⟩
  have hBp := hw.out.le
  have hpw := hw.out.lt
  go_enter Tryz.func186, Tryz.ntmps186
  go_wp2_with ((go_at_call 120; refine (put1 B p _ ((xs.length : Int)) _ (bs) inferInstance (by simp) (by with_reducible repeat' (first | exact Hid.out (by assumption) | refine Wr.alloc ?_ _ | refine Wr.ext _ ?_ | refine Wr.drew ?_)) (by omega)).go.mono ?_; rintro e w' ⟨rfl, y, rfl, hy⟩))
  go_loopw [17] (fun i wr => ∃ k : Nat, k ≤ xs.length ∧ i = .int .i64 k ∧ Fr 5 B p w wr ∧ Wr 5 B p wr (bs ++ [(xs.length : Int) % 256] ++ (xs.take k).flatMap F)) (fun i _ => xs.length - (intOf i).toNat)
  case atStart => exact ⟨0, Nat.zero_le _, rfl, (by with_reducible repeat' (first | exact Fr.refl | exact Hid.out (by assumption) | refine Fr.alloc ?_ _ | refine fr_ext _ ?_ | refine fr_wx _ ?_ | refine Fr.drew ?_)), by simpa using hy⟩
  case round =>
    obtain ⟨k, hk, rfl, hfr, hwr⟩ := hrel
    clear hy
    by_cases hlt : k < xs.length
    · obtain ⟨y, hy⟩ := getElem?_of_lt hlt
      obtain ⟨hok, b, off, hba, hbl, hc⟩ := hs.out.at_ k y hy
      simp only at hba
      subst hba
      have hbw : Below B w0 wr := hd.out.trans (hfr.below hBp (by omega))
      have hc' : ∀ (j : Nat) (v : Value), (El.cells eIm y)[j]? = some v → wr.cell? ⟨b, off + k * 3 + j, none⟩ = some v := fun j v hv => (hbw.cell (p := ⟨b, _, none⟩) (by rw [hB]; exact hbl)).trans (hc j v hv)
      have h0 := hc' 0 _ rfl; have h1 := hc' 1 _ rfl; have h2 := hc' 2 _ rfl; simp only [Nat.add_zero] at h0
      have hsp : xs.take (k + 1) = xs.take k ++ [y] := by rw [List.take_add_one, hy]; rfl
      have hlen : ((xs.take k).flatMap F).length + (F y).length ≤ (xs.flatMap F).length := by
        have e : xs.flatMap F = (xs.take (k + 1)).flatMap F ++ (xs.drop (k + 1)).flatMap F := by rw [← List.flatMap_append, List.take_append_drop]
        rw [e, hsp, List.flatMap_append]
        simp
      have hlen2 : (bs ++ [(xs.length : Int) % 256] ++ (xs.take k).flatMap F).length + (F y).length ≤ 1099511627776 := by
        simp only [List.length_append, List.length_singleton]; omega
      have hmem : y ∈ xs := List.mem_of_getElem? hy
      have HW := hid hwr
      have HL := hid hlen2
      have HF := hid hfr
      have HS := hid hsp
      have HM := hid hmem
      clear hc hc' hok hy hbl hfr hwr hsp hlen hlen2 hmem hbw
      have hk1 : (0 : Int) ≤ (k : Int) := by omega
      have hk2 : (k : Int) < (xs.length : Int) := by omega
      go_wp2_with (go_at_call 187; refine (hf.out y _ (bs ++ [(xs.length : Int) % 256] ++ (xs.take k).flatMap F) HM.out (by with_reducible repeat' (first | exact Fr.refl | exact Hid.out (by assumption) | refine Fr.alloc ?_ _ | refine fr_ext _ ?_ | refine fr_wx _ ?_ | refine Fr.drew ?_)) (by with_reducible repeat' (first | exact Hid.out (by assumption) | refine Wr.alloc ?_ _ | refine Wr.ext _ ?_ | refine Wr.drew ?_)) HL.out).go.mono ?_; rintro e w' ⟨rfl, z, rfl, hz⟩)
      go_roundw
      case rel => exact ⟨k + 1, by omega, by go_num, (by with_reducible repeat' (first | exact Fr.refl | exact Hid.out (by assumption) | refine Fr.alloc ?_ _ | refine fr_ext _ ?_ | refine fr_wx _ ?_ | refine Fr.drew ?_)), hz.eq (by rw [HS.out, List.flatMap_append]; simp)⟩
      case measure => simp [intOf]; omega
    · go_wp2_with fail
      go_end0
      obtain rfl : k = xs.length := by omega
      exact ⟨rfl, hfr, hwr.eq (by simp)⟩
set_option maxHeartbeats 1000000 in
set_option maxRecDepth 20000 in
theorem each_hd (B p : Nat) (s : Sl Hd) (F : Hd → List Int) (c0 : Value) (w0 w : World) (bs : List Int) (hB : B = w0.heap.size) (hs : Hid (s.Ok eHd 4 w0)) (hd : Hid (Below B w0 w)) (hw : Hid (Wr 5 B p w bs))
    (hl : bs.length + 1 + (s.xs.flatMap F).length ≤ 1099511627776)
    (hf : Hid (∀ (x : Hd) (W : World) (cs : List Int), x ∈ s.xs → Fr 5 B p w W → Wr 5 B p W cs → cs.length + (F x).length ≤ 1099511627776 → Puts 5 Tryz.prog 191 #[x.v, c0] B p W cs (F x))) :
    Puts 5 Tryz.prog 190 #[.pointer (some ⟨p, 0, none⟩), s.v, .func (.func 191) #[] #[c0]] B p w bs (((s.xs.length : Int) % 256) :: s.xs.flatMap F) := by
  obtain ⟨a, c, xs⟩ := s
  have hle := hs.out.le
  have hmx := hs.out.max
  simp only at hle hmx hl
  show Puts _ _ _ #[_, .slice a xs.length c, .func (.func 191) _ _] _ _ _ _ _
  unfold Puts
  haveI : InW p w := ⟨hw.out.lt⟩
  have hBp := hw.out.le
  have hpw := hw.out.lt
  go_enter Tryz.func190, Tryz.ntmps190
  go_wp2_with ((go_at_call 120; refine (put1 B p _ ((xs.length : Int)) _ (bs) inferInstance (by simp) (by with_reducible repeat' (first | exact Hid.out (by assumption) | refine Wr.alloc ?_ _ | refine Wr.ext _ ?_ | refine Wr.drew ?_)) (by omega)).go.mono ?_; rintro e w' ⟨rfl, y, rfl, hy⟩))
  go_loopw [17] (fun i wr => ∃ k : Nat, k ≤ xs.length ∧ i = .int .i64 k ∧ Fr 5 B p w wr ∧ Wr 5 B p wr (bs ++ [(xs.length : Int) % 256] ++ (xs.take k).flatMap F)) (fun i _ => xs.length - (intOf i).toNat)
  case atStart => exact ⟨0, Nat.zero_le _, rfl, (by with_reducible repeat' (first | exact Fr.refl | exact Hid.out (by assumption) | refine Fr.alloc ?_ _ | refine fr_ext _ ?_ | refine fr_wx _ ?_ | refine Fr.drew ?_)), by simpa using hy⟩
  case round =>
    obtain ⟨k, hk, rfl, hfr, hwr⟩ := hrel
    clear hy
    by_cases hlt : k < xs.length
    · obtain ⟨y, hy⟩ := getElem?_of_lt hlt
      obtain ⟨hok, b, off, hba, hbl, hc⟩ := hs.out.at_ k y hy
      simp only at hba
      subst hba
      have hbw : Below B w0 wr := hd.out.trans (hfr.below hBp (by omega))
      have hc' : ∀ (j : Nat) (v : Value), (El.cells eHd y)[j]? = some v → wr.cell? ⟨b, off + k * 4 + j, none⟩ = some v := fun j v hv => (hbw.cell (p := ⟨b, _, none⟩) (by rw [hB]; exact hbl)).trans (hc j v hv)
      have h0 := hc' 0 _ rfl; have h1 := hc' 1 _ rfl; have h2 := hc' 2 _ rfl; have h3 := hc' 3 _ rfl; simp only [Nat.add_zero] at h0
      have hsp : xs.take (k + 1) = xs.take k ++ [y] := by rw [List.take_add_one, hy]; rfl
      have hlen : ((xs.take k).flatMap F).length + (F y).length ≤ (xs.flatMap F).length := by
        have e : xs.flatMap F = (xs.take (k + 1)).flatMap F ++ (xs.drop (k + 1)).flatMap F := by rw [← List.flatMap_append, List.take_append_drop]
        rw [e, hsp, List.flatMap_append]
        simp
      have hlen2 : (bs ++ [(xs.length : Int) % 256] ++ (xs.take k).flatMap F).length + (F y).length ≤ 1099511627776 := by
        simp only [List.length_append, List.length_singleton]; omega
      have hmem : y ∈ xs := List.mem_of_getElem? hy
      have HW := hid hwr
      have HL := hid hlen2
      have HF := hid hfr
      have HS := hid hsp
      have HM := hid hmem
      clear hc hc' hok hy hbl hfr hwr hsp hlen hlen2 hmem hbw
      have hk1 : (0 : Int) ≤ (k : Int) := by omega
      have hk2 : (k : Int) < (xs.length : Int) := by omega
      go_wp2_with (go_at_call 191; refine (hf.out y _ (bs ++ [(xs.length : Int) % 256] ++ (xs.take k).flatMap F) HM.out (by with_reducible repeat' (first | exact Fr.refl | exact Hid.out (by assumption) | refine Fr.alloc ?_ _ | refine fr_ext _ ?_ | refine fr_wx _ ?_ | refine Fr.drew ?_)) (by with_reducible repeat' (first | exact Hid.out (by assumption) | refine Wr.alloc ?_ _ | refine Wr.ext _ ?_ | refine Wr.drew ?_)) HL.out).go.mono ?_; rintro e w' ⟨rfl, z, rfl, hz⟩)
      go_roundw
      case rel => exact ⟨k + 1, by omega, by go_num, (by with_reducible repeat' (first | exact Fr.refl | exact Hid.out (by assumption) | refine Fr.alloc ?_ _ | refine fr_ext _ ?_ | refine fr_wx _ ?_ | refine Fr.drew ?_)), hz.eq (by rw [HS.out, List.flatMap_append]; simp)⟩
      case measure => simp [intOf]; omega
    · go_wp2_with fail
      go_end0
      obtain rfl : k = xs.length := by omega
      exact ⟨rfl, hfr, hwr.eq (by simp)⟩
set_option maxHeartbeats 1000000 in
set_option maxRecDepth 20000 in
theorem each_ip (B p : Nat) (s : Sl Ip) (F : Ip → List Int) (c0 : Value) (w0 w : World) (bs : List Int) (hB : B = w0.heap.size) (hs : Hid (s.Ok eIp 3 w0)) (hd : Hid (Below B w0 w)) (hw : Hid (Wr 5 B p w bs))
    (hl : bs.length + 1 + (s.xs.flatMap F).length ≤ 1099511627776)
    (hf : Hid (∀ (x : Ip) (W : World) (cs : List Int), x ∈ s.xs → Fr 5 B p w W → Wr 5 B p W cs → cs.length + (F x).length ≤ 1099511627776 → Puts 5 Tryz.prog 123 #[x.v, c0] B p W cs (F x))) :
    Puts 5 Tryz.prog 122 #[.pointer (some ⟨p, 0, none⟩), s.v, .func (.func 123) #[] #[c0]] B p w bs (((s.xs.length : Int) % 256) :: s.xs.flatMap F) := by
  obtain ⟨a, c, xs⟩ := s
  have hle := hs.out.le
  have hmx := hs.out.max
  simp only at hle hmx hl
  show Puts _ _ _ #[_, .slice a xs.length c, .func (.func 123) _ _] _ _ _ _ _
  unfold Puts
  haveI : InW p w := ⟨hw.out.lt⟩
  have hBp := hw.out.le
  have hpw := hw.out.lt
  go_enter Tryz.func122, Tryz.ntmps122
  go_wp2_with ((go_at_call 120; refine (put1 B p _ ((xs.length : Int)) _ (bs) inferInstance (by simp) (by with_reducible repeat' (first | exact Hid.out (by assumption) | refine Wr.alloc ?_ _ | refine Wr.ext _ ?_ | refine Wr.drew ?_)) (by omega)).go.mono ?_; rintro e w' ⟨rfl, y, rfl, hy⟩))
  go_loopw [17] (fun i wr => ∃ k : Nat, k ≤ xs.length ∧ i = .int .i64 k ∧ Fr 5 B p w wr ∧ Wr 5 B p wr (bs ++ [(xs.length : Int) % 256] ++ (xs.take k).flatMap F)) (fun i _ => xs.length - (intOf i).toNat)
  case atStart => exact ⟨0, Nat.zero_le _, rfl, (by with_reducible repeat' (first | exact Fr.refl | exact Hid.out (by assumption) | refine Fr.alloc ?_ _ | refine fr_ext _ ?_ | refine fr_wx _ ?_ | refine Fr.drew ?_)), by simpa using hy⟩
  case round =>
    obtain ⟨k, hk, rfl, hfr, hwr⟩ := hrel
    clear hy
    by_cases hlt : k < xs.length
    · obtain ⟨y, hy⟩ := getElem?_of_lt hlt
      obtain ⟨hok, b, off, hba, hbl, hc⟩ := hs.out.at_ k y hy
      simp only at hba
      subst hba
      have hbw : Below B w0 wr := hd.out.trans (hfr.below hBp (by omega))
      have hc' : ∀ (j : Nat) (v : Value), (El.cells eIp y)[j]? = some v → wr.cell? ⟨b, off + k * 3 + j, none⟩ = some v := fun j v hv => (hbw.cell (p := ⟨b, _, none⟩) (by rw [hB]; exact hbl)).trans (hc j v hv)
      have h0 := hc' 0 _ rfl; have h1 := hc' 1 _ rfl; have h2 := hc' 2 _ rfl; simp only [Nat.add_zero] at h0
      have hsp : xs.take (k + 1) = xs.take k ++ [y] := by rw [List.take_add_one, hy]; rfl
      have hlen : ((xs.take k).flatMap F).length + (F y).length ≤ (xs.flatMap F).length := by
        have e : xs.flatMap F = (xs.take (k + 1)).flatMap F ++ (xs.drop (k + 1)).flatMap F := by rw [← List.flatMap_append, List.take_append_drop]
        rw [e, hsp, List.flatMap_append]
        simp
      have hlen2 : (bs ++ [(xs.length : Int) % 256] ++ (xs.take k).flatMap F).length + (F y).length ≤ 1099511627776 := by
        simp only [List.length_append, List.length_singleton]; omega
      have hmem : y ∈ xs := List.mem_of_getElem? hy
      have HW := hid hwr
      have HL := hid hlen2
      have HF := hid hfr
      have HS := hid hsp
      have HM := hid hmem
      clear hc hc' hok hy hbl hfr hwr hsp hlen hlen2 hmem hbw
      have hk1 : (0 : Int) ≤ (k : Int) := by omega
      have hk2 : (k : Int) < (xs.length : Int) := by omega
      go_wp2_with (go_at_call 123; refine (hf.out y _ (bs ++ [(xs.length : Int) % 256] ++ (xs.take k).flatMap F) HM.out (by with_reducible repeat' (first | exact Fr.refl | exact Hid.out (by assumption) | refine Fr.alloc ?_ _ | refine fr_ext _ ?_ | refine fr_wx _ ?_ | refine Fr.drew ?_)) (by with_reducible repeat' (first | exact Hid.out (by assumption) | refine Wr.alloc ?_ _ | refine Wr.ext _ ?_ | refine Wr.drew ?_)) HL.out).go.mono ?_; rintro e w' ⟨rfl, z, rfl, hz⟩)
      go_roundw
      case rel => exact ⟨k + 1, by omega, by go_num, (by with_reducible repeat' (first | exact Fr.refl | exact Hid.out (by assumption) | refine Fr.alloc ?_ _ | refine fr_ext _ ?_ | refine fr_wx _ ?_ | refine Fr.drew ?_)), hz.eq (by rw [HS.out, List.flatMap_append]; simp)⟩
      case measure => simp [intOf]; omega
    · go_wp2_with fail
      go_end0
      obtain rfl : k = xs.length := by omega
      exact ⟨rfl, hfr, hwr.eq (by simp)⟩
set_option maxHeartbeats 1000000 in
set_option maxRecDepth 20000 in
theorem each_cl (B p : Nat) (s : Sl Cl) (F : Cl → List Int)  (w0 w : World) (bs : List Int) (hB : B = w0.heap.size) (hs : Hid (s.Ok eCl 7 w0)) (hd : Hid (Below B w0 w)) (hw : Hid (Wr 5 B p w bs))
    (hl : bs.length + 1 + (s.xs.flatMap F).length ≤ 1099511627776)
    (hf : Hid (∀ (x : Cl) (W : World) (cs : List Int), x ∈ s.xs → Fr 5 B p w W → Wr 5 B p W cs → cs.length + (F x).length ≤ 1099511627776 → Puts 5 Tryz.prog 125 #[.pointer (some ⟨p, 0, none⟩), x.v] B p W cs (F x))) :
    Puts 5 Tryz.prog 124 #[.pointer (some ⟨p, 0, none⟩), s.v, .func (.func 125) #[.pointer (some ⟨p, 0, none⟩)] #[]] B p w bs (((s.xs.length : Int) % 256) :: s.xs.flatMap F) := by
  obtain ⟨a, c, xs⟩ := s
  have hle := hs.out.le
  have hmx := hs.out.max
  simp only at hle hmx hl
  show Puts _ _ _ #[_, .slice a xs.length c, .func (.func 125) _ _] _ _ _ _ _
  unfold Puts
  haveI : InW p w := ⟨hw.out.lt⟩
  have hBp := hw.out.le
  have hpw := hw.out.lt
  go_enter Tryz.func124, Tryz.ntmps124
  go_wp2_with ((go_at_call 120; refine (put1 B p _ ((xs.length : Int)) _ (bs) inferInstance (by simp) (by with_reducible repeat' (first | exact Hid.out (by assumption) | refine Wr.alloc ?_ _ | refine Wr.ext _ ?_ | refine Wr.drew ?_)) (by omega)).go.mono ?_; rintro e w' ⟨rfl, y, rfl, hy⟩))
  go_loopw [17] (fun i wr => ∃ k : Nat, k ≤ xs.length ∧ i = .int .i64 k ∧ Fr 5 B p w wr ∧ Wr 5 B p wr (bs ++ [(xs.length : Int) % 256] ++ (xs.take k).flatMap F)) (fun i _ => xs.length - (intOf i).toNat)
  case atStart => exact ⟨0, Nat.zero_le _, rfl, (by with_reducible repeat' (first | exact Fr.refl | exact Hid.out (by assumption) | refine Fr.alloc ?_ _ | refine fr_ext _ ?_ | refine fr_wx _ ?_ | refine Fr.drew ?_)), by simpa using hy⟩
  case round =>
    obtain ⟨k, hk, rfl, hfr, hwr⟩ := hrel
    clear hy
    by_cases hlt : k < xs.length
    · obtain ⟨y, hy⟩ := getElem?_of_lt hlt
      obtain ⟨hok, b, off, hba, hbl, hc⟩ := hs.out.at_ k y hy
      simp only at hba
      subst hba
      have hbw : Below B w0 wr := hd.out.trans (hfr.below hBp (by omega))
      have hc' : ∀ (j : Nat) (v : Value), (El.cells eCl y)[j]? = some v → wr.cell? ⟨b, off + k * 7 + j, none⟩ = some v := fun j v hv => (hbw.cell (p := ⟨b, _, none⟩) (by rw [hB]; exact hbl)).trans (hc j v hv)
      have h0 := hc' 0 _ rfl; have h1 := hc' 1 _ rfl; have h2 := hc' 2 _ rfl; have h3 := hc' 3 _ rfl; have h4 := hc' 4 _ rfl; have h5 := hc' 5 _ rfl; have h6 := hc' 6 _ rfl; simp only [Nat.add_zero] at h0
      have hsp : xs.take (k + 1) = xs.take k ++ [y] := by rw [List.take_add_one, hy]; rfl
      have hlen : ((xs.take k).flatMap F).length + (F y).length ≤ (xs.flatMap F).length := by
        have e : xs.flatMap F = (xs.take (k + 1)).flatMap F ++ (xs.drop (k + 1)).flatMap F := by rw [← List.flatMap_append, List.take_append_drop]
        rw [e, hsp, List.flatMap_append]
        simp
      have hlen2 : (bs ++ [(xs.length : Int) % 256] ++ (xs.take k).flatMap F).length + (F y).length ≤ 1099511627776 := by
        simp only [List.length_append, List.length_singleton]; omega
      have hmem : y ∈ xs := List.mem_of_getElem? hy
      have HW := hid hwr
      have HL := hid hlen2
      have HF := hid hfr
      have HS := hid hsp
      have HM := hid hmem
      clear hc hc' hok hy hbl hfr hwr hsp hlen hlen2 hmem hbw
      have hk1 : (0 : Int) ≤ (k : Int) := by omega
      have hk2 : (k : Int) < (xs.length : Int) := by omega
      go_wp2_with (go_at_call 125; refine (hf.out y _ (bs ++ [(xs.length : Int) % 256] ++ (xs.take k).flatMap F) HM.out (by with_reducible repeat' (first | exact Fr.refl | exact Hid.out (by assumption) | refine Fr.alloc ?_ _ | refine fr_ext _ ?_ | refine fr_wx _ ?_ | refine Fr.drew ?_)) (by with_reducible repeat' (first | exact Hid.out (by assumption) | refine Wr.alloc ?_ _ | refine Wr.ext _ ?_ | refine Wr.drew ?_)) HL.out).go.mono ?_; rintro e w' ⟨rfl, z, rfl, hz⟩)
      go_roundw
      case rel => exact ⟨k + 1, by omega, by go_num, (by with_reducible repeat' (first | exact Fr.refl | exact Hid.out (by assumption) | refine Fr.alloc ?_ _ | refine fr_ext _ ?_ | refine fr_wx _ ?_ | refine Fr.drew ?_)), hz.eq (by rw [HS.out, List.flatMap_append]; simp)⟩
      case measure => simp [intOf]; omega
    · go_wp2_with fail
      go_end0
      obtain rfl : k = xs.length := by omega
      exact ⟨rfl, hfr, hwr.eq (by simp)⟩
set_option maxHeartbeats 1000000 in
set_option maxRecDepth 20000 in
theorem each_me (B p : Nat) (s : Sl Me) (F : Me → List Int)  (w0 w : World) (bs : List Int) (hB : B = w0.heap.size) (hs : Hid (s.Ok eMe 11 w0)) (hd : Hid (Below B w0 w)) (hw : Hid (Wr 5 B p w bs))
    (hl : bs.length + 1 + (s.xs.flatMap F).length ≤ 1099511627776)
    (hf : Hid (∀ (x : Me) (W : World) (cs : List Int), x ∈ s.xs → Fr 5 B p w W → Wr 5 B p W cs → cs.length + (F x).length ≤ 1099511627776 → Puts 5 Tryz.prog 127 #[.pointer (some ⟨p, 0, none⟩), x.v] B p W cs (F x))) :
    Puts 5 Tryz.prog 126 #[.pointer (some ⟨p, 0, none⟩), s.v, .func (.func 127) #[.pointer (some ⟨p, 0, none⟩)] #[]] B p w bs (((s.xs.length : Int) % 256) :: s.xs.flatMap F) := by
  obtain ⟨a, c, xs⟩ := s
  have hle := hs.out.le
  have hmx := hs.out.max
  simp only at hle hmx hl
  show Puts _ _ _ #[_, .slice a xs.length c, .func (.func 127) _ _] _ _ _ _ _
  unfold Puts
  haveI : InW p w := ⟨hw.out.lt⟩
  have hBp := hw.out.le
  have hpw := hw.out.lt
  go_enter Tryz.func126, Tryz.ntmps126
  go_wp2_with ((go_at_call 120; refine (put1 B p _ ((xs.length : Int)) _ (bs) inferInstance (by simp) (by with_reducible repeat' (first | exact Hid.out (by assumption) | refine Wr.alloc ?_ _ | refine Wr.ext _ ?_ | refine Wr.drew ?_)) (by omega)).go.mono ?_; rintro e w' ⟨rfl, y, rfl, hy⟩))
  go_loopw [17] (fun i wr => ∃ k : Nat, k ≤ xs.length ∧ i = .int .i64 k ∧ Fr 5 B p w wr ∧ Wr 5 B p wr (bs ++ [(xs.length : Int) % 256] ++ (xs.take k).flatMap F)) (fun i _ => xs.length - (intOf i).toNat)
  case atStart => exact ⟨0, Nat.zero_le _, rfl, (by with_reducible repeat' (first | exact Fr.refl | exact Hid.out (by assumption) | refine Fr.alloc ?_ _ | refine fr_ext _ ?_ | refine fr_wx _ ?_ | refine Fr.drew ?_)), by simpa using hy⟩
  case round =>
    obtain ⟨k, hk, rfl, hfr, hwr⟩ := hrel
    clear hy
    by_cases hlt : k < xs.length
    · obtain ⟨y, hy⟩ := getElem?_of_lt hlt
      obtain ⟨hok, b, off, hba, hbl, hc⟩ := hs.out.at_ k y hy
      simp only at hba
      subst hba
      have hbw : Below B w0 wr := hd.out.trans (hfr.below hBp (by omega))
      have hc' : ∀ (j : Nat) (v : Value), (El.cells eMe y)[j]? = some v → wr.cell? ⟨b, off + k * 11 + j, none⟩ = some v := fun j v hv => (hbw.cell (p := ⟨b, _, none⟩) (by rw [hB]; exact hbl)).trans (hc j v hv)
      have h0 := hc' 0 _ rfl; have h1 := hc' 1 _ rfl; have h2 := hc' 2 _ rfl; have h3 := hc' 3 _ rfl; have h4 := hc' 4 _ rfl; have h5 := hc' 5 _ rfl; have h6 := hc' 6 _ rfl; have h7 := hc' 7 _ rfl; have h8 := hc' 8 _ rfl; have h9 := hc' 9 _ rfl; have h10 := hc' 10 _ rfl; simp only [Nat.add_zero] at h0
      have hsp : xs.take (k + 1) = xs.take k ++ [y] := by rw [List.take_add_one, hy]; rfl
      have hlen : ((xs.take k).flatMap F).length + (F y).length ≤ (xs.flatMap F).length := by
        have e : xs.flatMap F = (xs.take (k + 1)).flatMap F ++ (xs.drop (k + 1)).flatMap F := by rw [← List.flatMap_append, List.take_append_drop]
        rw [e, hsp, List.flatMap_append]
        simp
      have hlen2 : (bs ++ [(xs.length : Int) % 256] ++ (xs.take k).flatMap F).length + (F y).length ≤ 1099511627776 := by
        simp only [List.length_append, List.length_singleton]; omega
      have hmem : y ∈ xs := List.mem_of_getElem? hy
      have HW := hid hwr
      have HL := hid hlen2
      have HF := hid hfr
      have HS := hid hsp
      have HM := hid hmem
      clear hc hc' hok hy hbl hfr hwr hsp hlen hlen2 hmem hbw
      have hk1 : (0 : Int) ≤ (k : Int) := by omega
      have hk2 : (k : Int) < (xs.length : Int) := by omega
      go_wp2_with (go_at_call 127; refine (hf.out y _ (bs ++ [(xs.length : Int) % 256] ++ (xs.take k).flatMap F) HM.out (by with_reducible repeat' (first | exact Fr.refl | exact Hid.out (by assumption) | refine Fr.alloc ?_ _ | refine fr_ext _ ?_ | refine fr_wx _ ?_ | refine Fr.drew ?_)) (by with_reducible repeat' (first | exact Hid.out (by assumption) | refine Wr.alloc ?_ _ | refine Wr.ext _ ?_ | refine Wr.drew ?_)) HL.out).go.mono ?_; rintro e w' ⟨rfl, z, rfl, hz⟩)
      go_roundw
      case rel => exact ⟨k + 1, by omega, by go_num, (by with_reducible repeat' (first | exact Fr.refl | exact Hid.out (by assumption) | refine Fr.alloc ?_ _ | refine fr_ext _ ?_ | refine fr_wx _ ?_ | refine Fr.drew ?_)), hz.eq (by rw [HS.out, List.flatMap_append]; simp)⟩
      case measure => simp [intOf]; omega
    · go_wp2_with fail
      go_end0
      obtain rfl : k = xs.length := by omega
      exact ⟨rfl, hfr, hwr.eq (by simp)⟩
set_option maxHeartbeats 1000000 in
set_option maxRecDepth 20000 in
theorem each_ap (B p : Nat) (s : Sl Ap) (F : Ap → List Int) (c0 : Value) (w0 w : World) (bs : List Int) (hB : B = w0.heap.size) (hs : Hid (s.Ok eAp 3 w0)) (hd : Hid (Below B w0 w)) (hw : Hid (Wr 5 B p w bs))
    (hl : bs.length + 1 + (s.xs.flatMap F).length ≤ 1099511627776)
    (hf : Hid (∀ (x : Ap) (W : World) (cs : List Int), x ∈ s.xs → Fr 5 B p w W → Wr 5 B p W cs → cs.length + (F x).length ≤ 1099511627776 → Puts 5 Tryz.prog 131 #[x.v, c0] B p W cs (F x))) :
    Puts 5 Tryz.prog 130 #[.pointer (some ⟨p, 0, none⟩), s.v, .func (.func 131) #[] #[c0]] B p w bs (((s.xs.length : Int) % 256) :: s.xs.flatMap F) := by
  obtain ⟨a, c, xs⟩ := s
  have hle := hs.out.le
  have hmx := hs.out.max
  simp only at hle hmx hl
  show Puts _ _ _ #[_, .slice a xs.length c, .func (.func 131) _ _] _ _ _ _ _
  unfold Puts
  haveI : InW p w := ⟨hw.out.lt⟩
  have hBp := hw.out.le
  have hpw := hw.out.lt
  go_enter Tryz.func130, Tryz.ntmps130
  go_wp2_with ((go_at_call 120; refine (put1 B p _ ((xs.length : Int)) _ (bs) inferInstance (by simp) (by with_reducible repeat' (first | exact Hid.out (by assumption) | refine Wr.alloc ?_ _ | refine Wr.ext _ ?_ | refine Wr.drew ?_)) (by omega)).go.mono ?_; rintro e w' ⟨rfl, y, rfl, hy⟩))
  go_loopw [17] (fun i wr => ∃ k : Nat, k ≤ xs.length ∧ i = .int .i64 k ∧ Fr 5 B p w wr ∧ Wr 5 B p wr (bs ++ [(xs.length : Int) % 256] ++ (xs.take k).flatMap F)) (fun i _ => xs.length - (intOf i).toNat)
  case atStart => exact ⟨0, Nat.zero_le _, rfl, (by with_reducible repeat' (first | exact Fr.refl | exact Hid.out (by assumption) | refine Fr.alloc ?_ _ | refine fr_ext _ ?_ | refine fr_wx _ ?_ | refine Fr.drew ?_)), by simpa using hy⟩
  case round =>
    obtain ⟨k, hk, rfl, hfr, hwr⟩ := hrel
    clear hy
    by_cases hlt : k < xs.length
    · obtain ⟨y, hy⟩ := getElem?_of_lt hlt
      obtain ⟨hok, b, off, hba, hbl, hc⟩ := hs.out.at_ k y hy
      simp only at hba
      subst hba
      have hbw : Below B w0 wr := hd.out.trans (hfr.below hBp (by omega))
      have hc' : ∀ (j : Nat) (v : Value), (El.cells eAp y)[j]? = some v → wr.cell? ⟨b, off + k * 3 + j, none⟩ = some v := fun j v hv => (hbw.cell (p := ⟨b, _, none⟩) (by rw [hB]; exact hbl)).trans (hc j v hv)
      have h0 := hc' 0 _ rfl; have h1 := hc' 1 _ rfl; have h2 := hc' 2 _ rfl; simp only [Nat.add_zero] at h0
      have hsp : xs.take (k + 1) = xs.take k ++ [y] := by rw [List.take_add_one, hy]; rfl
      have hlen : ((xs.take k).flatMap F).length + (F y).length ≤ (xs.flatMap F).length := by
        have e : xs.flatMap F = (xs.take (k + 1)).flatMap F ++ (xs.drop (k + 1)).flatMap F := by rw [← List.flatMap_append, List.take_append_drop]
        rw [e, hsp, List.flatMap_append]
        simp
      have hlen2 : (bs ++ [(xs.length : Int) % 256] ++ (xs.take k).flatMap F).length + (F y).length ≤ 1099511627776 := by
        simp only [List.length_append, List.length_singleton]; omega
      have hmem : y ∈ xs := List.mem_of_getElem? hy
      have HW := hid hwr
      have HL := hid hlen2
      have HF := hid hfr
      have HS := hid hsp
      have HM := hid hmem
      clear hc hc' hok hy hbl hfr hwr hsp hlen hlen2 hmem hbw
      have hk1 : (0 : Int) ≤ (k : Int) := by omega
      have hk2 : (k : Int) < (xs.length : Int) := by omega
      go_wp2_with (go_at_call 131; refine (hf.out y _ (bs ++ [(xs.length : Int) % 256] ++ (xs.take k).flatMap F) HM.out (by with_reducible repeat' (first | exact Fr.refl | exact Hid.out (by assumption) | refine Fr.alloc ?_ _ | refine fr_ext _ ?_ | refine fr_wx _ ?_ | refine Fr.drew ?_)) (by with_reducible repeat' (first | exact Hid.out (by assumption) | refine Wr.alloc ?_ _ | refine Wr.ext _ ?_ | refine Wr.drew ?_)) HL.out).go.mono ?_; rintro e w' ⟨rfl, z, rfl, hz⟩)
      go_roundw
      case rel => exact ⟨k + 1, by omega, by go_num, (by with_reducible repeat' (first | exact Fr.refl | exact Hid.out (by assumption) | refine Fr.alloc ?_ _ | refine fr_ext _ ?_ | refine fr_wx _ ?_ | refine Fr.drew ?_)), hz.eq (by rw [HS.out, List.flatMap_append]; simp)⟩
      case measure => simp [intOf]; omega
    · go_wp2_with fail
      go_end0
      obtain rfl : k = xs.length := by omega
      exact ⟨rfl, hfr, hwr.eq (by simp)⟩
end Go.Proofs.YthagkijplklemaaGreatDoor
end
