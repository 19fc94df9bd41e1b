/- The program's writer: number, flag, aid. The program's writer: an implementation. The program's writer: a class. The program's writer: wide. The program's writer: handlers, imports, applets. The program's writer: a class's walk. -/
import Derived.Test.YthagkijplklemaaGreatDoorS05
import Derived.BigGuardPart
import Derived.Deep.RegionHeld3
section
namespace Go.Proofs.YthagkijplklemaaGreatDoor
open Go.ChangeShapes Go.WideShapes Go.ChangeAt Go.RowKit Go.Sc
abbrev listB {α : Type} (F : α → List Int) (xs : List α) : List Int := ((xs.length : Int) % 256) :: xs.flatMap F
theorem fr_cell {U : TypeId} {B p b o : Nat} {w w' : World} (h : Fr U B p w w') (hk : Kp U B p b w) : w'.cell? ⟨b, o, none⟩ = w.cell? ⟨b, o, none⟩ := World.cell?_of_block (w := w) (h.block b hk.lt hk.ne hk.nu)
theorem fr_kp {U : TypeId} {B p b : Nat} {w w' : World} (h : Fr U B p w w') (hk : Kp U B p b w) : Kp U B p b w' := @Kp.wx U B p b w hk ⟨w', h⟩
theorem flag_any (b : Bool) (n : Int) (w : World) : Gives Tryz.prog 181 #[.bool b, .int .i64 n] w (.int .i64 (if b then n else 0)) := by
  unfold Gives
  cases b
  all_goals
    go_enter Tryz.func181, Tryz.ntmps181
    go_wp2_with fail
    go_ret
    exact ⟨ret_int (by simp), END⟩
theorem number_any (B p : Nat) (n : Int) (w : World) (bs : List Int) (hw : Hid (Wr 5 B p w bs)) (hl : bs.length + 1 ≤ 1099511627776) :
    Puts 5 Tryz.prog 185 #[.pointer (some ⟨p, 0, none⟩), .int .i64 n] B p w bs [n % 256] := by
  unfold Puts
  haveI : InW p w := ⟨hw.out.lt⟩
  go_enter Tryz.func185, Tryz.ntmps185
  go_wp2_with ((go_at_call 120; refine (put1 B p _ (n) _ (bs) inferInstance (by simp) (by with_reducible repeat' (first | exact Hid.out (by assumption) | refine Wr.alloc ?_ _ | refine Wr.ext _ ?_ | refine Wr.drew ?_)) (hl)).go.mono ?_; rintro e w' ⟨rfl, y, rfl, hy⟩))
  go_end0
  exact ⟨rfl, (by with_reducible repeat' (first | exact Fr.refl | exact Hid.out (by assumption) | refine Fr.alloc ?_ _ | refine fr_ext _ ?_ | refine fr_wx _ ?_ | refine Fr.drew ?_)), hy⟩
theorem aid1_any (B p cb : Nat) (x : Int) (w : World) (bs : List Int) (hc : w.cell? ⟨cb, 0, none⟩ = some (.pointer (some ⟨p, 0, none⟩))) (hx1 : 0 ≤ x) (hx2 : x ≤ 255) (hw : Hid (Wr 5 B p w bs)) (hl : bs.length + 1 ≤ 1099511627776) :
    Puts 5 Tryz.prog 180 #[.int .u8 x, .pointer (some ⟨cb, 0, none⟩)] B p w bs [x % 256] := by
  unfold Puts
  haveI : InW p w := ⟨hw.out.lt⟩
  go_enter Tryz.func180, Tryz.ntmps180
  go_wp2_with ((go_at_call 120; refine (put1 B p _ (x) _ (bs) inferInstance (by simp) (by with_reducible repeat' (first | exact Hid.out (by assumption) | refine Wr.alloc ?_ _ | refine Wr.ext _ ?_ | refine Wr.drew ?_)) (hl)).go.mono ?_; rintro e w' ⟨rfl, y, rfl, hy⟩))
  go_end0
  exact ⟨rfl, (by with_reducible repeat' (first | exact Fr.refl | exact Hid.out (by assumption) | refine Fr.alloc ?_ _ | refine fr_ext _ ?_ | refine fr_wx _ ?_ | refine Fr.drew ?_)), hy⟩
instance : NeT 147 5 := ⟨by decide⟩
theorem byte_each (B p cb : Nat) (s : Sl Int) (w0 : World) (hs : Hid (Bytes w0 s)) : Hid (∀ w1 : World, w1.cell? ⟨cb, 0, none⟩ = some (.pointer (some ⟨p, 0, none⟩)) → Kp 5 B p cb w1 →
    ∀ (x : Int) (W : World) (cs : List Int), x ∈ s.xs → Fr 5 B p w1 W → Wr 5 B p W cs → cs.length + [x % 256].length ≤ 1099511627776 → Puts 5 Tryz.prog 180 #[.int .u8 x, .pointer (some ⟨cb, 0, none⟩)] B p W cs [x % 256]) :=
  fun w1 hc hk x W cs hm hf hw hl => by
    obtain ⟨j, hj⟩ := List.mem_iff_getElem?.1 hm
    have hx := (hs.out.at_ j x hj).1
    exact aid1_any B p cb x W cs ((fr_cell hf hk).trans hc) hx.1 hx.2 hw hl
theorem aid_any (B p : Nat) (s : Sl Int) (w0 w : World) (bs : List Int) (hB : B = w0.heap.size) (hs : Hid (Bytes w0 s)) (hd : Hid (Below B w0 w)) (hw : Hid (Wr 5 B p w bs)) (hl : bs.length + (listB (fun x : Int => [x % 256]) s.xs).length ≤ 1099511627776) :
    Puts 5 Tryz.prog 121 #[.pointer (some ⟨p, 0, none⟩), s.v] B p w bs (listB (fun x : Int => [x % 256]) s.xs) := by
  unfold Puts
  haveI : InW p w := ⟨hw.out.lt⟩
  have hBp := hw.out.le
  have hpw := hw.out.lt
  have hl' : bs.length + 1 + (s.xs.flatMap (fun x : Int => [x % 256])).length ≤ 1099511627776 := by simp only [listB, List.length_cons] at hl; omega
  have hf := byte_each B p w.heap.size s w0 hs
  have hE : Hid (∀ w1 : World, w1.cell? ⟨w.heap.size, 0, none⟩ = some (.pointer (some ⟨p, 0, none⟩)) → Kp 5 B p w.heap.size w1 → Fr 5 B p w w1 → Wr 5 B p w1 bs →
      Puts 5 Tryz.prog 179 #[.pointer (some ⟨p, 0, none⟩), s.v, .func (.func 180) #[] #[.pointer (some ⟨w.heap.size, 0, none⟩)]] B p w1 bs (listB (fun x : Int => [x % 256]) s.xs)) :=
    fun w1 hc hk hfr hwr => each_byte B p s (fun x : Int => [x % 256]) _ w0 w1 bs hB hs (hd.out.trans (hfr.below hBp (by omega))) hwr hl' (hf.out w1 hc hk)
  go_enter Tryz.func121, Tryz.ntmps121
  go_wp2_with (go_at_call 179; refine (hE.out _ (by simp) inferInstance (by with_reducible repeat' (first | exact Fr.refl | exact Hid.out (by assumption) | refine Fr.alloc ?_ _ | refine fr_ext _ ?_ | refine fr_wx _ ?_ | refine Fr.drew ?_)) (by with_reducible repeat' (first | exact Hid.out (by assumption) | refine Wr.alloc ?_ _ | refine Wr.ext _ ?_ | refine Wr.drew ?_))).go.mono ?_; rintro e w' ⟨rfl, y, rfl, hy⟩)
  go_end0
  exact ⟨rfl, (by with_reducible repeat' (first | exact Fr.refl | exact Hid.out (by assumption) | refine Fr.alloc ?_ _ | refine fr_ext _ ?_ | refine fr_wx _ ?_ | refine Fr.drew ?_)), hy⟩
end Go.Proofs.YthagkijplklemaaGreatDoor
end

section
namespace Go.Proofs.YthagkijplklemaaGreatDoor
open Go.ChangeShapes Go.WideShapes Go.ChangeAt Go.RowKit Go.Sc
instance : NeT 59 5 := ⟨by decide⟩
instance : NeT 49 5 := ⟨by decide⟩
instance : NeT 55 5 := ⟨by decide⟩
instance : NeT 61 5 := ⟨by decide⟩
instance : NeT 63 5 := ⟨by decide⟩
instance : NeT 29 5 := ⟨by decide⟩
instance : NeT 112 5 := ⟨by decide⟩
abbrev byteB (n : Int) : List Int := [n % 256]
def imB (y : Im) : List Int := [y.i.p % 256, y.i.c % 256] ++ listB byteB y.ms.xs
theorem int_each (B p : Nat) (s : Sl Int) (w0 : World) (hB : B = w0.heap.size) (hs : Hid (Ints w0 s)) : Hid (∀ (w1 : World) (bs : List Int), Below B w0 w1 → Wr 5 B p w1 bs → bs.length + (listB byteB s.xs).length ≤ 1099511627776 →
    Puts 5 Tryz.prog 184 #[.pointer (some ⟨p, 0, none⟩), s.v, .func (.func 185) #[.pointer (some ⟨p, 0, none⟩)] #[]] B p w1 bs (listB byteB s.xs)) :=
  fun w1 bs hd hw hl => each_int B p s byteB w0 w1 bs hB hs hd hw (by simp only [listB, List.length_cons] at hl; omega) (fun x W cs _ _ hw hl => number_any B p x W cs hw hl)
set_option maxHeartbeats 1000000 in
theorem wclass1_any (B p cb : Nat) (y : Im) (w0 w : World) (bs : List Int) (hB : B = w0.heap.size) (hy : Hid (y.Ok w0)) (hd : Hid (Below B w0 w)) (hc : w.cell? ⟨cb, 0, none⟩ = some (.pointer (some ⟨p, 0, none⟩))) (hk : Kp 5 B p cb w)
    (hw : Hid (Wr 5 B p w bs)) (hl : bs.length + (imB y).length ≤ 1099511627776) :
    Puts 5 Tryz.prog 187 #[y.v, .pointer (some ⟨cb, 0, none⟩)] B p w bs (imB y) := by
  unfold Puts
  haveI : InW p w := ⟨hw.out.lt⟩
  haveI : InW cb w := ⟨hk.lt⟩
  haveI := hk
  have hBp := hw.out.le
  have hpw := hw.out.lt
  have hE := int_each B p y.ms w0 hB hy.out.2.2
  have hl1 : bs.length + 2 ≤ 1099511627776 := by simp [imB] at hl; omega
  have hl2 : (bs ++ [y.i.p % 256, y.i.c % 256]).length + (listB byteB y.ms.xs).length ≤ 1099511627776 := by simp only [imB, List.length_append] at hl ⊢; omega
  go_enter Tryz.func187, Tryz.ntmps187
  go_wp2_with (go_at_call 182; refine (ref_any B p y.i _ bs (hid (by with_reducible repeat' (first | exact Hid.out (by assumption) | refine Wr.alloc ?_ _ | refine Wr.ext _ ?_ | refine Wr.drew ?_))) hl1).go.mono ?_; rintro e w' ⟨rfl, z, rfl, hz⟩)
  have hz' := hid hz
  go_wp2_with (go_at_call 184; refine (hE.out _ (bs ++ [y.i.p % 256, y.i.c % 256]) (hd.out.trans (Fr.below (p := p) (U := 5) (by with_reducible repeat' (first | exact Fr.refl | exact Hid.out (by assumption) | refine Fr.alloc ?_ _ | refine fr_ext _ ?_ | refine fr_wx _ ?_ | refine Fr.drew ?_)) hBp (by omega))) (by with_reducible repeat' (first | exact Hid.out (by assumption) | refine Wr.alloc ?_ _ | refine Wr.ext _ ?_ | refine Wr.drew ?_)) hl2).go.mono ?_; rintro e w' ⟨rfl, z2, rfl, hz2⟩)
  go_end0
  exact ⟨rfl, (by with_reducible repeat' (first | exact Fr.refl | exact Hid.out (by assumption) | refine Fr.alloc ?_ _ | refine fr_ext _ ?_ | refine fr_wx _ ?_ | refine Fr.drew ?_)), hz2.eq (by simp [imB])⟩
end Go.Proofs.YthagkijplklemaaGreatDoor
end

section
namespace Go.Proofs.YthagkijplklemaaGreatDoor
open Go.ChangeShapes Go.WideShapes Go.ChangeAt Go.RowKit Go.Sc
abbrev rfB (r : Rf) : List Int := [r.p % 256, r.c % 256]
theorem typB_le (t : Ty) : (typB t).length ≤ 3 := by unfold typB; split <;> simp
theorem rf_each (B p : Nat) (s : Sl Rf) (w0 : World) (hB : B = w0.heap.size) (hs : Hid (s.Ok eRf 2 w0)) : Hid (∀ (w1 : World) (bs : List Int), Below B w0 w1 → Wr 5 B p w1 bs → bs.length + (listB rfB s.xs).length ≤ 1099511627776 →
    Puts 5 Tryz.prog 183 #[.pointer (some ⟨p, 0, none⟩), s.v, .func (.func 182) #[.pointer (some ⟨p, 0, none⟩)] #[]] B p w1 bs (listB rfB s.xs)) :=
  fun w1 bs hd hw hl => each_rf B p s rfB w0 w1 bs hB hs hd hw (by simp only [listB, List.length_cons] at hl; omega) (fun x W cs _ _ hw hl => ref_any B p x W cs hw hl)
theorem im_each (B p cb : Nat) (s : Sl Im) (w0 : World) (hB : B = w0.heap.size) (hs : Hid (s.Ok eIm 3 w0)) : Hid (∀ (w1 : World) (bs : List Int), w1.cell? ⟨cb, 0, none⟩ = some (.pointer (some ⟨p, 0, none⟩)) → Kp 5 B p cb w1 → Below B w0 w1 → Wr 5 B p w1 bs → bs.length + (listB imB s.xs).length ≤ 1099511627776 →
    Puts 5 Tryz.prog 186 #[.pointer (some ⟨p, 0, none⟩), s.v, .func (.func 187) #[] #[.pointer (some ⟨cb, 0, none⟩)]] B p w1 bs (listB imB s.xs)) :=
  fun w1 bs hc hk hd hw hl => each_im B p s imB _ w0 w1 bs hB hs hd hw (by simp only [listB, List.length_cons] at hl; omega) (fun x W cs hm hf hW hl => by
    obtain ⟨j, hj⟩ := List.mem_iff_getElem?.1 hm
    have hlt := hw.lt
    have hle := hw.le
    exact wclass1_any B p cb x w0 W cs hB (hs.out.at_ j x hj).1 (hd.trans (hf.below hle (by omega))) ((fr_cell hf hk).trans hc) (fr_kp hf hk) hW hl)
theorem ty_each (B p : Nat) (s : Sl Ty) (w0 : World) (hB : B = w0.heap.size) (hs : Hid (s.Ok eTy 3 w0)) : Hid (∀ (w1 : World) (bs : List Int), Below B w0 w1 → Wr 5 B p w1 bs → bs.length + (listB typB s.xs).length ≤ 1099511627776 →
    Puts 5 Tryz.prog 128 #[.pointer (some ⟨p, 0, none⟩), s.v, .func (.func 129) #[.pointer (some ⟨p, 0, none⟩)] #[]] B p w1 bs (listB typB s.xs)) :=
  fun w1 bs hd hw hl => each_ty B p s typB w0 w1 bs hB hs hd hw (by simp only [listB, List.length_cons] at hl; omega) (fun x W cs _ _ hw hl => typ_any B p x W cs hw hl)
theorem flagT (n : Int) (w : World) : Gives Tryz.prog 181 #[.bool true, .int .i64 n] w (.int .i64 n) := by simpa using flag_any true n w
theorem flagF (n : Int) (w : World) : Gives Tryz.prog 181 #[.bool false, .int .i64 n] w (.int .i64 0) := by simpa using flag_any false n w
def clB (x : Cl) : List Int := [(if x.isI then 1 else 0)] ++ rfB x.super ++ listB rfB x.ext.xs ++ listB typB x.fields.xs ++ listB byteB x.virt.xs ++ listB imB x.impls.xs
end Go.Proofs.YthagkijplklemaaGreatDoor
end

section
namespace Go.Proofs.YthagkijplklemaaGreatDoor
open Go.ChangeShapes Go.WideShapes Go.ChangeAt Go.RowKit Go.Sc
abbrev wideB (x : Int) : List Int := [x / 256 % 256, x % 256]
set_option maxHeartbeats 1000000 in
set_option maxRecDepth 20000 in
theorem wide_any (B p b : Nat) (xs : List Int) (w : World) (bs : List Int) (hk : Kp 5 B p b w) (hc : Hid (∀ (j : Nat) (x : Int), xs[j]? = some x → w.cell? ⟨b, j, none⟩ = some (.int .i64 x)))
    (hw : Hid (Wr 5 B p w bs)) (hl : bs.length + 2 * xs.length ≤ 1099511627776) :
    Puts 5 Tryz.prog 189 #[.pointer (some ⟨p, 0, none⟩), .slice (some ⟨b, 0, none⟩) xs.length xs.length] B p w bs (xs.flatMap wideB) := by
  unfold Puts
  have hpw := hw.out.lt
  go_enter Tryz.func189, Tryz.ntmps189
  go_wp2_with fail
  go_loopw [8] (fun i wr => ∃ k : Nat, k ≤ xs.length ∧ i = .int .i64 k ∧ Fr 5 B p w wr ∧ Wr 5 B p wr (bs ++ (xs.take k).flatMap wideB)) (fun i _ => xs.length - (intOf i).toNat)
  case atStart => exact ⟨0, Nat.zero_le _, rfl, .refl, by simpa using hw.out⟩
  case round =>
    obtain ⟨k, hk', rfl, hf, hr⟩ := hrel
    by_cases hlt : k < xs.length
    · obtain ⟨x, hx⟩ := getElem?_of_lt hlt
      have h0 : wr.cell? ⟨b, k, none⟩ = some (.int .i64 x) := (World.cell?_of_block (w := w) (hf.block b hk.lt hk.ne hk.nu)).trans (hc.out k x hx)
      haveI : InW p wr := ⟨hr.lt⟩
      have hlen : ∀ ys : List Int, (ys.flatMap wideB).length = 2 * ys.length := fun ys => by induction ys with
        | nil => rfl
        | cons a l ih => simp only [List.flatMap_cons, List.length_append, ih, List.length_cons]; simp; omega
      have hn : (bs ++ (xs.take k).flatMap wideB).length + 2 ≤ 1099511627776 := by rw [List.length_append, hlen, List.length_take]; omega
      have hk1 : (0 : Int) ≤ (k : Int) := by omega
      have hk2 : (k : Int) < (xs.length : Int) := by omega
      have HR := hid hr
      have HF := hid hf
      have HX := hid hx
      clear hr hf hx hlen
      go_wp2_with ((go_at_call 120; refine (put2 B p _ (x / 256) (x) _ (bs ++ (xs.take k).flatMap wideB) inferInstance (by simp) (by simp) (by with_reducible repeat' (first | exact Hid.out (by assumption) | refine Wr.alloc ?_ _ | refine Wr.ext _ ?_ | refine Wr.drew ?_)) (hn)).go.mono ?_; rintro e w' ⟨rfl, y, rfl, hy⟩))
      go_roundw
      case rel => exact ⟨k + 1, by omega, by go_num, (by with_reducible repeat' (first | exact Fr.refl | exact Hid.out (by assumption) | refine Fr.alloc ?_ _ | refine fr_ext _ ?_ | refine fr_wx _ ?_ | refine Fr.drew ?_)), hy.eq (by rw [List.take_add_one, HX.out]; simp [List.flatMap_append])⟩
      case measure => simp [intOf]; omega
    · go_wp2_with fail
      go_end0
      obtain rfl : k = xs.length := by omega
      exact ⟨rfl, hf, hr.eq (by simp)⟩
end Go.Proofs.YthagkijplklemaaGreatDoor
end

section
namespace Go.Proofs.YthagkijplklemaaGreatDoor
open Go.ChangeShapes Go.WideShapes Go.ChangeAt Go.RowKit Go.Sc
def hdB (h : Hd) : List Int := [h.f, h.t, h.g, h.w].flatMap wideB
theorem wide4 (B p b : Nat) (x1 x2 x3 x4 : Int) (w : World) (bs : List Int) (hk : Kp 5 B p b w) (h0 : w.cell? ⟨b, 0, none⟩ = some (.int .i64 x1)) (h1 : w.cell? ⟨b, 1, none⟩ = some (.int .i64 x2)) (h2 : w.cell? ⟨b, 2, none⟩ = some (.int .i64 x3)) (h3 : w.cell? ⟨b, 3, none⟩ = some (.int .i64 x4))
    (hw : Wr 5 B p w bs) (hl : bs.length + 8 ≤ 1099511627776) :
    Puts 5 Tryz.prog 189 #[.pointer (some ⟨p, 0, none⟩), .slice (some ⟨b, 0, none⟩) 4 4] B p w bs ([x1, x2, x3, x4].flatMap wideB) :=
  wide_any B p b [x1, x2, x3, x4] w bs hk (fun j z hj => by
    match j, hj with
    | 0, hj => simp at hj; subst hj; exact h0
    | 1, hj => simp at hj; subst hj; exact h1
    | 2, hj => simp at hj; subst hj; exact h2
    | 3, hj => simp at hj; subst hj; exact h3) hw hl
set_option maxHeartbeats 1000000 in
theorem wmethod1_any (B p cb : Nat) (h : Hd) (w : World) (bs : List Int) (hc : w.cell? ⟨cb, 0, none⟩ = some (.pointer (some ⟨p, 0, none⟩))) (hk : Kp 5 B p cb w)
    (hw : Hid (Wr 5 B p w bs)) (hl : bs.length + 8 ≤ 1099511627776) :
    Puts 5 Tryz.prog 191 #[h.v, .pointer (some ⟨cb, 0, none⟩)] B p w bs (hdB h) := by
  unfold Puts
  haveI : InW p w := ⟨hw.out.lt⟩
  haveI : InW cb w := ⟨hk.lt⟩
  go_enter Tryz.func191, Tryz.ntmps191
  go_wp2_with (go_at_call 189; refine (wide4 B p _ h.f h.t h.g h.w _ bs inferInstance (by simp) (by simp) (by simp) (by simp) (by with_reducible repeat' (first | exact Hid.out (by assumption) | refine Wr.alloc ?_ _ | refine Wr.ext _ ?_ | refine Wr.drew ?_)) hl).go.mono ?_; rintro e w' ⟨rfl, z, rfl, hz⟩)
  go_end0
  exact ⟨rfl, (by with_reducible repeat' (first | exact Fr.refl | exact Hid.out (by assumption) | refine Fr.alloc ?_ _ | refine fr_ext _ ?_ | refine fr_wx _ ?_ | refine Fr.drew ?_)), hz⟩
def ipB (x : Ip) : List Int := listB (fun n : Int => [n % 256]) x.aid.xs ++ [x.major % 256, x.minor % 256]
set_option maxHeartbeats 1000000 in
theorem whole1_any (B p cb : Nat) (x : Ip) (w0 w : World) (bs : List Int) (hB : B = w0.heap.size) (hx : Hid (x.Ok w0)) (hd : Hid (Below B w0 w)) (hc : w.cell? ⟨cb, 0, none⟩ = some (.pointer (some ⟨p, 0, none⟩))) (hk : Kp 5 B p cb w)
    (hw : Hid (Wr 5 B p w bs)) (hl : bs.length + (ipB x).length ≤ 1099511627776) :
    Puts 5 Tryz.prog 123 #[x.v, .pointer (some ⟨cb, 0, none⟩)] B p w bs (ipB x) := by
  unfold Puts
  haveI : InW p w := ⟨hw.out.lt⟩
  haveI : InW cb w := ⟨hk.lt⟩
  haveI := hk
  have hBp := hw.out.le
  have hpw := hw.out.lt
  have hl1 : bs.length + (listB (fun n : Int => [n % 256]) x.aid.xs).length ≤ 1099511627776 := by simp only [ipB, List.length_append] at hl; omega
  have hl2 : (bs ++ listB (fun n : Int => [n % 256]) x.aid.xs).length + 2 ≤ 1099511627776 := by simp only [ipB, List.length_append, List.length_cons, List.length_nil] at hl ⊢; omega
  have hE : Hid (∀ w1 : World, Fr 5 B p w w1 → Wr 5 B p w1 bs → Puts 5 Tryz.prog 121 #[.pointer (some ⟨p, 0, none⟩), x.aid.v] B p w1 bs (listB (fun n : Int => [n % 256]) x.aid.xs)) :=
    fun w1 hf hW => aid_any B p x.aid w0 w1 bs hB hx.out.1 (hd.out.trans (hf.below hBp (by omega))) hW hl1
  go_enter Tryz.func123, Tryz.ntmps123
  go_wp2_with (go_at_call 121; refine (hE.out _ (by with_reducible repeat' (first | exact Fr.refl | exact Hid.out (by assumption) | refine Fr.alloc ?_ _ | refine fr_ext _ ?_ | refine fr_wx _ ?_ | refine Fr.drew ?_)) (by with_reducible repeat' (first | exact Hid.out (by assumption) | refine Wr.alloc ?_ _ | refine Wr.ext _ ?_ | refine Wr.drew ?_))).go.mono ?_; rintro e w' ⟨rfl, z, rfl, hz⟩; replace hz := hid hz)
  have e1 : z.val.cell? ⟨cb, 0, none⟩ = some (.pointer (some ⟨p, 0, none⟩)) := by simp [Wx.cell, alloc_cell_in, hc]
  have e2 : z.val.cell? ⟨w.heap.size, 1, none⟩ = some (.int .i64 x.major) := by simp [Wx.cell]
  have e3 : z.val.cell? ⟨w.heap.size, 2, none⟩ = some (.int .i64 x.minor) := by simp [Wx.cell]
  go_region_held3 (fun w' => w'.cell? ⟨cb, 0, none⟩ = some (.pointer (some ⟨p, 0, none⟩)) ∧ w'.cell? ⟨w.heap.size, 1, none⟩ = some (.int .i64 x.major) ∧ w'.cell? ⟨w.heap.size, 2, none⟩ = some (.int .i64 x.minor)) (first | (go_keep) | exact ⟨e1, e2, e3⟩ | (refine ⟨?_, ?_, ?_⟩ <;> simp [Wx.cell, alloc_cell_in, e1, e2, e3])) (first | (go_at_call 120; refine (put2 B p _ (x.major) (x.minor) _ (bs ++ listB (fun n : Int => [n % 256]) x.aid.xs) inferInstance (by simp) (by simp) (by with_reducible repeat' (first | exact Hid.out (by assumption) | refine Wr.alloc ?_ _ | refine Wr.ext _ ?_ | refine Wr.drew ?_)) (hl2)).go.mono ?_; rintro e w' ⟨rfl, y, rfl, hy⟩))
  go_end0
  exact ⟨rfl, (by with_reducible repeat' (first | exact Fr.refl | exact Hid.out (by assumption) | refine Fr.alloc ?_ _ | refine fr_ext _ ?_ | refine fr_wx _ ?_ | refine Fr.drew ?_)), hy.eq (by simp [ipB])⟩
def apB (x : Ap) : List Int := listB (fun n : Int => [n % 256]) x.aid.xs ++ [x.cls % 256, x.inst % 256]
set_option maxHeartbeats 1000000 in
theorem whole2_any (B p cb : Nat) (x : Ap) (w0 w : World) (bs : List Int) (hB : B = w0.heap.size) (hx : Hid (x.Ok w0)) (hd : Hid (Below B w0 w)) (hc : w.cell? ⟨cb, 0, none⟩ = some (.pointer (some ⟨p, 0, none⟩))) (hk : Kp 5 B p cb w)
    (hw : Hid (Wr 5 B p w bs)) (hl : bs.length + (apB x).length ≤ 1099511627776) :
    Puts 5 Tryz.prog 131 #[x.v, .pointer (some ⟨cb, 0, none⟩)] B p w bs (apB x) := by
  unfold Puts
  haveI : InW p w := ⟨hw.out.lt⟩
  haveI : InW cb w := ⟨hk.lt⟩
  haveI := hk
  have hBp := hw.out.le
  have hpw := hw.out.lt
  have hl1 : bs.length + (listB (fun n : Int => [n % 256]) x.aid.xs).length ≤ 1099511627776 := by simp only [apB, List.length_append] at hl; omega
  have hl2 : (bs ++ listB (fun n : Int => [n % 256]) x.aid.xs).length + 2 ≤ 1099511627776 := by simp only [apB, List.length_append, List.length_cons, List.length_nil] at hl ⊢; omega
  have hE : Hid (∀ w1 : World, Fr 5 B p w w1 → Wr 5 B p w1 bs → Puts 5 Tryz.prog 121 #[.pointer (some ⟨p, 0, none⟩), x.aid.v] B p w1 bs (listB (fun n : Int => [n % 256]) x.aid.xs)) :=
    fun w1 hf hW => aid_any B p x.aid w0 w1 bs hB hx.out.1 (hd.out.trans (hf.below hBp (by omega))) hW hl1
  go_enter Tryz.func131, Tryz.ntmps131
  go_wp2_with (go_at_call 121; refine (hE.out _ (by with_reducible repeat' (first | exact Fr.refl | exact Hid.out (by assumption) | refine Fr.alloc ?_ _ | refine fr_ext _ ?_ | refine fr_wx _ ?_ | refine Fr.drew ?_)) (by with_reducible repeat' (first | exact Hid.out (by assumption) | refine Wr.alloc ?_ _ | refine Wr.ext _ ?_ | refine Wr.drew ?_))).go.mono ?_; rintro e w' ⟨rfl, z, rfl, hz⟩; replace hz := hid hz)
  have e1 : z.val.cell? ⟨cb, 0, none⟩ = some (.pointer (some ⟨p, 0, none⟩)) := by simp [Wx.cell, alloc_cell_in, hc]
  have e2 : z.val.cell? ⟨w.heap.size, 1, none⟩ = some (.int .i64 x.cls) := by simp [Wx.cell]
  have e3 : z.val.cell? ⟨w.heap.size, 2, none⟩ = some (.int .i64 x.inst) := by simp [Wx.cell]
  go_region_held3 (fun w' => w'.cell? ⟨cb, 0, none⟩ = some (.pointer (some ⟨p, 0, none⟩)) ∧ w'.cell? ⟨w.heap.size, 1, none⟩ = some (.int .i64 x.cls) ∧ w'.cell? ⟨w.heap.size, 2, none⟩ = some (.int .i64 x.inst)) (first | (go_keep) | exact ⟨e1, e2, e3⟩ | (refine ⟨?_, ?_, ?_⟩ <;> simp [Wx.cell, alloc_cell_in, e1, e2, e3])) (first | (go_at_call 120; refine (put2 B p _ (x.cls) (x.inst) _ (bs ++ listB (fun n : Int => [n % 256]) x.aid.xs) inferInstance (by simp) (by simp) (by with_reducible repeat' (first | exact Hid.out (by assumption) | refine Wr.alloc ?_ _ | refine Wr.ext _ ?_ | refine Wr.drew ?_)) (hl2)).go.mono ?_; rintro e w' ⟨rfl, y, rfl, hy⟩))
  go_end0
  exact ⟨rfl, (by with_reducible repeat' (first | exact Fr.refl | exact Hid.out (by assumption) | refine Fr.alloc ?_ _ | refine fr_ext _ ?_ | refine fr_wx _ ?_ | refine Fr.drew ?_)), hy.eq (by simp [apB])⟩
end Go.Proofs.YthagkijplklemaaGreatDoor
end

section
namespace Go.Proofs.YthagkijplklemaaGreatDoor
open Go.ChangeShapes Go.WideShapes Go.ChangeAt Go.RowKit Go.Sc
set_option maxRecDepth 100000 in
set_option maxHeartbeats 4000000 in
theorem wclass_any (B p : Nat) (x : Cl) (w0 w : World) (bs : List Int) (hB : B = w0.heap.size) (hx : Hid (x.Ok w0)) (hd : Hid (Below B w0 w))
    (hw : Hid (Wr 5 B p w bs)) (hl : bs.length + (clB x).length ≤ 1099511627776) :
    Puts 5 Tryz.prog 125 #[.pointer (some ⟨p, 0, none⟩), x.v] B p w bs (clB x) := by
  unfold Puts
  haveI : InW p w := ⟨hw.out.lt⟩
  have hBp := hw.out.le
  have hpw := hw.out.lt
  have hE1 := rf_each B p x.ext w0 hB hx.out.ext
  have hE2 := ty_each B p x.fields w0 hB hx.out.fields
  have hE3 := int_each B p x.virt w0 hB hx.out.virt
  have hE4 := im_each B p w.heap.size x.impls w0 hB hx.out.impls
  obtain ⟨f, hf⟩ : ∃ f : Int, f = (if x.isI then 1 else 0) := ⟨_, rfl⟩
  have hl0 : bs.length + 1 ≤ 1099511627776 := by simp [clB] at hl; omega
  have hl1 : (bs ++ [f]).length + 2 ≤ 1099511627776 := by simp [clB] at hl ⊢; omega
  have hl2 : (bs ++ [f] ++ rfB x.super).length + (listB rfB x.ext.xs).length ≤ 1099511627776 := by simp only [clB, List.length_append, List.length_singleton] at hl ⊢; omega
  have hl3 : (bs ++ [f] ++ rfB x.super ++ listB rfB x.ext.xs).length + (listB typB x.fields.xs).length ≤ 1099511627776 := by simp only [clB, List.length_append, List.length_singleton] at hl ⊢; omega
  have hl4 : (bs ++ [f] ++ rfB x.super ++ listB rfB x.ext.xs ++ listB typB x.fields.xs).length + (listB byteB x.virt.xs).length ≤ 1099511627776 := by simp only [clB, List.length_append, List.length_singleton] at hl ⊢; omega
  have hl5 : (bs ++ [f] ++ rfB x.super ++ listB rfB x.ext.xs ++ listB typB x.fields.xs ++ listB byteB x.virt.xs).length + (listB imB x.impls.xs).length ≤ 1099511627776 := by simp only [clB, List.length_append, List.length_singleton] at hl ⊢; omega
  cases hI : x.isI
  · simp [hI] at hf
    subst hf
    go_enter Tryz.func125, Tryz.ntmps125
    go_wp2_with fail
    go_region_held3 (fun w' => w'.cell? ⟨w.heap.size, 0, none⟩ = some (.pointer (some ⟨p, 0, none⟩)) ∧ w'.cell? ⟨w.heap.size + 1, 2, none⟩ = some (.bool false)) (first | (go_keep) | (refine ⟨?_, ?_⟩ <;> simp [Wx.cell, Ext.cell, alloc_cell_in])) (first | (go_at_call 181; refine (flagF _ _).go.mono ?_; rintro e w' ⟨rfl, xw, rfl⟩) | (go_at_call 120; refine (put1 B p _ (0) _ (bs) inferInstance (by simp) (by with_reducible repeat' (first | exact Hid.out (by assumption) | refine Wr.alloc ?_ _ | refine Wr.ext _ ?_ | refine Wr.drew ?_)) (hl0)).go.mono ?_; rintro e w' ⟨rfl, y, rfl, hy⟩))
    have hy' := hid (hy.eq (cs := bs ++ [0]) (by simp))
    go_wp2_with (first | (go_at_call 182; refine (ref_any B p x.super _ (bs ++ [0]) (hid (by with_reducible repeat' (first | exact Hid.out (by assumption) | refine Wr.alloc ?_ _ | refine Wr.ext _ ?_ | refine Wr.drew ?_))) hl1).go.mono ?_; rintro e w' ⟨rfl, z, rfl, hz⟩; replace hz := hid hz) | (go_at_call 183; refine (hE1.out _ (bs ++ [0] ++ rfB x.super) (hd.out.trans (Fr.below (p := p) (U := 5) (by with_reducible repeat' (first | exact Fr.refl | exact Hid.out (by assumption) | refine Fr.alloc ?_ _ | refine fr_ext _ ?_ | refine fr_wx _ ?_ | refine Fr.drew ?_)) hBp (by omega))) (by with_reducible repeat' (first | exact Hid.out (by assumption) | refine Wr.alloc ?_ _ | refine Wr.ext _ ?_ | refine Wr.drew ?_)) hl2).go.mono ?_; rintro e w' ⟨rfl, z, rfl, hz⟩; replace hz := hid hz) | (go_at_call 128; refine (hE2.out _ (bs ++ [0] ++ rfB x.super ++ listB rfB x.ext.xs) (hd.out.trans (Fr.below (p := p) (U := 5) (by with_reducible repeat' (first | exact Fr.refl | exact Hid.out (by assumption) | refine Fr.alloc ?_ _ | refine fr_ext _ ?_ | refine fr_wx _ ?_ | refine Fr.drew ?_)) hBp (by omega))) (by with_reducible repeat' (first | exact Hid.out (by assumption) | refine Wr.alloc ?_ _ | refine Wr.ext _ ?_ | refine Wr.drew ?_)) hl3).go.mono ?_; rintro e w' ⟨rfl, z, rfl, hz⟩; replace hz := hid hz) | (go_at_call 184; refine (hE3.out _ (bs ++ [0] ++ rfB x.super ++ listB rfB x.ext.xs ++ listB typB x.fields.xs) (hd.out.trans (Fr.below (p := p) (U := 5) (by with_reducible repeat' (first | exact Fr.refl | exact Hid.out (by assumption) | refine Fr.alloc ?_ _ | refine fr_ext _ ?_ | refine fr_wx _ ?_ | refine Fr.drew ?_)) hBp (by omega))) (by with_reducible repeat' (first | exact Hid.out (by assumption) | refine Wr.alloc ?_ _ | refine Wr.ext _ ?_ | refine Wr.drew ?_)) hl4).go.mono ?_; rintro e w' ⟨rfl, z, rfl, hz⟩; replace hz := hid hz) | (go_at_call 186; refine (hE4.out _ (bs ++ [0] ++ rfB x.super ++ listB rfB x.ext.xs ++ listB typB x.fields.xs ++ listB byteB x.virt.xs) (by simp [Wx.cell, Ext.cell, alloc_cell_in]) inferInstance (hd.out.trans (Fr.below (p := p) (U := 5) (by with_reducible repeat' (first | exact Fr.refl | exact Hid.out (by assumption) | refine Fr.alloc ?_ _ | refine fr_ext _ ?_ | refine fr_wx _ ?_ | refine Fr.drew ?_)) hBp (by omega))) (by with_reducible repeat' (first | exact Hid.out (by assumption) | refine Wr.alloc ?_ _ | refine Wr.ext _ ?_ | refine Wr.drew ?_)) hl5).go.mono ?_; rintro e w' ⟨rfl, z, rfl, hz⟩; replace hz := hid hz))
    go_end0
    exact ⟨rfl, (by with_reducible repeat' (first | exact Fr.refl | exact Hid.out (by assumption) | refine Fr.alloc ?_ _ | refine fr_ext _ ?_ | refine fr_wx _ ?_ | refine Fr.drew ?_)), hz.out.eq (by unfold clB; simp [hI])⟩
  · simp [hI] at hf
    subst hf
    go_enter Tryz.func125, Tryz.ntmps125
    go_wp2_with fail
    go_region_held3 (fun w' => w'.cell? ⟨w.heap.size, 0, none⟩ = some (.pointer (some ⟨p, 0, none⟩)) ∧ w'.cell? ⟨w.heap.size + 1, 2, none⟩ = some (.bool true)) (first | (go_keep) | (refine ⟨?_, ?_⟩ <;> simp [Wx.cell, Ext.cell, alloc_cell_in])) (first | (go_at_call 181; refine (flagT _ _).go.mono ?_; rintro e w' ⟨rfl, xw, rfl⟩) | (go_at_call 120; refine (put1 B p _ (1) _ (bs) inferInstance (by simp) (by with_reducible repeat' (first | exact Hid.out (by assumption) | refine Wr.alloc ?_ _ | refine Wr.ext _ ?_ | refine Wr.drew ?_)) (hl0)).go.mono ?_; rintro e w' ⟨rfl, y, rfl, hy⟩))
    have hy' := hid (hy.eq (cs := bs ++ [1]) (by simp))
    go_wp2_with (first | (go_at_call 182; refine (ref_any B p x.super _ (bs ++ [1]) (hid (by with_reducible repeat' (first | exact Hid.out (by assumption) | refine Wr.alloc ?_ _ | refine Wr.ext _ ?_ | refine Wr.drew ?_))) hl1).go.mono ?_; rintro e w' ⟨rfl, z, rfl, hz⟩; replace hz := hid hz) | (go_at_call 183; refine (hE1.out _ (bs ++ [1] ++ rfB x.super) (hd.out.trans (Fr.below (p := p) (U := 5) (by with_reducible repeat' (first | exact Fr.refl | exact Hid.out (by assumption) | refine Fr.alloc ?_ _ | refine fr_ext _ ?_ | refine fr_wx _ ?_ | refine Fr.drew ?_)) hBp (by omega))) (by with_reducible repeat' (first | exact Hid.out (by assumption) | refine Wr.alloc ?_ _ | refine Wr.ext _ ?_ | refine Wr.drew ?_)) hl2).go.mono ?_; rintro e w' ⟨rfl, z, rfl, hz⟩; replace hz := hid hz) | (go_at_call 128; refine (hE2.out _ (bs ++ [1] ++ rfB x.super ++ listB rfB x.ext.xs) (hd.out.trans (Fr.below (p := p) (U := 5) (by with_reducible repeat' (first | exact Fr.refl | exact Hid.out (by assumption) | refine Fr.alloc ?_ _ | refine fr_ext _ ?_ | refine fr_wx _ ?_ | refine Fr.drew ?_)) hBp (by omega))) (by with_reducible repeat' (first | exact Hid.out (by assumption) | refine Wr.alloc ?_ _ | refine Wr.ext _ ?_ | refine Wr.drew ?_)) hl3).go.mono ?_; rintro e w' ⟨rfl, z, rfl, hz⟩; replace hz := hid hz) | (go_at_call 184; refine (hE3.out _ (bs ++ [1] ++ rfB x.super ++ listB rfB x.ext.xs ++ listB typB x.fields.xs) (hd.out.trans (Fr.below (p := p) (U := 5) (by with_reducible repeat' (first | exact Fr.refl | exact Hid.out (by assumption) | refine Fr.alloc ?_ _ | refine fr_ext _ ?_ | refine fr_wx _ ?_ | refine Fr.drew ?_)) hBp (by omega))) (by with_reducible repeat' (first | exact Hid.out (by assumption) | refine Wr.alloc ?_ _ | refine Wr.ext _ ?_ | refine Wr.drew ?_)) hl4).go.mono ?_; rintro e w' ⟨rfl, z, rfl, hz⟩; replace hz := hid hz) | (go_at_call 186; refine (hE4.out _ (bs ++ [1] ++ rfB x.super ++ listB rfB x.ext.xs ++ listB typB x.fields.xs ++ listB byteB x.virt.xs) (by simp [Wx.cell, Ext.cell, alloc_cell_in]) inferInstance (hd.out.trans (Fr.below (p := p) (U := 5) (by with_reducible repeat' (first | exact Fr.refl | exact Hid.out (by assumption) | refine Fr.alloc ?_ _ | refine fr_ext _ ?_ | refine fr_wx _ ?_ | refine Fr.drew ?_)) hBp (by omega))) (by with_reducible repeat' (first | exact Hid.out (by assumption) | refine Wr.alloc ?_ _ | refine Wr.ext _ ?_ | refine Wr.drew ?_)) hl5).go.mono ?_; rintro e w' ⟨rfl, z, rfl, hz⟩; replace hz := hid hz))
    go_end0
    exact ⟨rfl, (by with_reducible repeat' (first | exact Fr.refl | exact Hid.out (by assumption) | refine Fr.alloc ?_ _ | refine fr_ext _ ?_ | refine fr_wx _ ?_ | refine Fr.drew ?_)), hz.out.eq (by unfold clB; simp [hI])⟩
end Go.Proofs.YthagkijplklemaaGreatDoor
end
