/- The program's writer: handlers, imports, applets. The program's writer: a class's walk. -/
import Derived.Test.YthagkijplklemaaGreatDoorM05
import Derived.Deep.RegionHeld3
section
namespace Go.Proofs.YthagkijplklemaaGreatDoor
open Go.ChangeShapes Go.WideShapes Go.ChangeAt Go.RowKit Go.Sc
def hdB (h : Hd) : List Int := [h.f, h.t, h.g, h.w].flatMap wideB
theorem wide4 (B p b : Nat) (x1 x2 x3 x4 : Int) (w : World) (bs : List Int) (hk : Kp 5 B p b w) (h0 : w.cell? ⟨b, 0, none⟩ = some (.int .i64 x1)) (h1 : w.cell? ⟨b, 1, none⟩ = some (.int .i64 x2)) (h2 : w.cell? ⟨b, 2, none⟩ = some (.int .i64 x3)) (h3 : w.cell? ⟨b, 3, none⟩ = some (.int .i64 x4))
    (hw : Wr 5 B p w bs) (hl : bs.length + 8 ≤ 1099511627776) :
    Puts 5 Tryz.prog 189 #[.pointer (some ⟨p, 0, none⟩), .slice (some ⟨b, 0, none⟩) 4 4] B p w bs ([x1, x2, x3, x4].flatMap wideB) :=
  wide_any B p b [x1, x2, x3, x4] w bs hk (fun j z hj => by
    match j, hj with
    | 0, hj => simp at hj; subst hj; exact h0
    | 1, hj => simp at hj; subst hj; exact h1
    | 2, hj => simp at hj; subst hj; exact h2
    | 3, hj => simp at hj; subst hj; exact h3) hw hl
set_option maxHeartbeats 1000000 in
theorem wmethod1_any (B p cb : Nat) (h : Hd) (w : World) (bs : List Int) (hc : w.cell? ⟨cb, 0, none⟩ = some (.pointer (some ⟨p, 0, none⟩))) (hk : Kp 5 B p cb w)
    (hw : Hid (Wr 5 B p w bs)) (hl : bs.length + 8 ≤ 1099511627776) :
    Puts 5 Tryz.prog 191 #[h.v, .pointer (some ⟨cb, 0, none⟩)] B p w bs (hdB h) := by
  unfold Puts
  haveI : InW p w := ⟨hw.out.lt⟩
  haveI : InW cb w := ⟨hk.lt⟩
  go_enter Tryz.func191, Tryz.ntmps191
  go_wp2_with (go_at_call 189; refine (wide4 B p _ h.f h.t h.g h.w _ bs inferInstance (by simp) (by simp) (by simp) (by simp) (by with_reducible repeat' (first | exact Hid.out (by assumption) | refine Wr.alloc ?_ _ | refine Wr.ext _ ?_ | refine Wr.drew ?_)) hl).go.mono ?_; rintro e w' ⟨rfl, z, rfl, hz⟩)
  go_end0
  exact ⟨rfl, (by with_reducible repeat' (first | exact Fr.refl | exact Hid.out (by assumption) | refine Fr.alloc ?_ _ | refine fr_ext _ ?_ | refine fr_wx _ ?_ | refine Fr.drew ?_)), hz⟩
def ipB (x : Ip) : List Int := listB (fun n : Int => [n % 256]) x.aid.xs ++ [x.major % 256, x.minor % 256]
set_option maxHeartbeats 1000000 in
theorem whole1_any (B p cb : Nat) (x : Ip) (w0 w : World) (bs : List Int) (hB : B = w0.heap.size) (hx : Hid (x.Ok w0)) (hd : Hid (Below B w0 w)) (hc : w.cell? ⟨cb, 0, none⟩ = some (.pointer (some ⟨p, 0, none⟩))) (hk : Kp 5 B p cb w)
    (hw : Hid (Wr 5 B p w bs)) (hl : bs.length + (ipB x).length ≤ 1099511627776) :
    Puts 5 Tryz.prog 123 #[x.v, .pointer (some ⟨cb, 0, none⟩)] B p w bs (ipB x) := by
  unfold Puts
  haveI : InW p w := ⟨hw.out.lt⟩
  haveI : InW cb w := ⟨hk.lt⟩
  haveI := hk
  have hBp := hw.out.le
  have hpw := hw.out.lt
  have hl1 : bs.length + (listB (fun n : Int => [n % 256]) x.aid.xs).length ≤ 1099511627776 := by simp only [ipB, List.length_append] at hl; omega
  have hl2 : (bs ++ listB (fun n : Int => [n % 256]) x.aid.xs).length + 2 ≤ 1099511627776 := by simp only [ipB, List.length_append, List.length_cons, List.length_nil] at hl ⊢; omega
  have hE : Hid (∀ w1 : World, Fr 5 B p w w1 → Wr 5 B p w1 bs → Puts 5 Tryz.prog 121 #[.pointer (some ⟨p, 0, none⟩), x.aid.v] B p w1 bs (listB (fun n : Int => [n % 256]) x.aid.xs)) :=
    fun w1 hf hW => aid_any B p x.aid w0 w1 bs hB hx.out.1 (hd.out.trans (hf.below hBp (by omega))) hW hl1
  go_enter Tryz.func123, Tryz.ntmps123
  go_wp2_with (go_at_call 121; refine (hE.out _ (by with_reducible repeat' (first | exact Fr.refl | exact Hid.out (by assumption) | refine Fr.alloc ?_ _ | refine fr_ext _ ?_ | refine fr_wx _ ?_ | refine Fr.drew ?_)) (by with_reducible repeat' (first | exact Hid.out (by assumption) | refine Wr.alloc ?_ _ | refine Wr.ext _ ?_ | refine Wr.drew ?_))).go.mono ?_; rintro e w' ⟨rfl, z, rfl, hz⟩; replace hz := hid hz)
  have e1 : z.val.cell? ⟨cb, 0, none⟩ = some (.pointer (some ⟨p, 0, none⟩)) := by simp [Wx.cell, alloc_cell_in, hc]
  have e2 : z.val.cell? ⟨w.heap.size, 1, none⟩ = some (.int .i64 x.major) := by simp [Wx.cell]
  have e3 : z.val.cell? ⟨w.heap.size, 2, none⟩ = some (.int .i64 x.minor) := by simp [Wx.cell]
  go_region_held3 (fun w' => w'.cell? ⟨cb, 0, none⟩ = some (.pointer (some ⟨p, 0, none⟩)) ∧ w'.cell? ⟨w.heap.size, 1, none⟩ = some (.int .i64 x.major) ∧ w'.cell? ⟨w.heap.size, 2, none⟩ = some (.int .i64 x.minor)) (first | (go_keep) | exact ⟨e1, e2, e3⟩ | (refine ⟨?_, ?_, ?_⟩ <;> simp [Wx.cell, alloc_cell_in, e1, e2, e3])) (first | (go_at_call 120; refine (put2 B p _ (x.major) (x.minor) _ (bs ++ listB (fun n : Int => [n % 256]) x.aid.xs) inferInstance (by simp) (by simp) (by with_reducible repeat' (first | exact Hid.out (by assumption) | refine Wr.alloc ?_ _ | refine Wr.ext _ ?_ | refine Wr.drew ?_)) (hl2)).go.mono ?_; rintro e w' ⟨rfl, y, rfl, hy⟩))
  go_end0
  exact ⟨rfl, (by with_reducible repeat' (first | exact Fr.refl | exact Hid.out (by assumption) | refine Fr.alloc ?_ _ | refine fr_ext _ ?_ | refine fr_wx _ ?_ | refine Fr.drew ?_)), hy.eq (by simp [ipB])⟩
def apB (x : Ap) : List Int := listB (fun n : Int => [n % 256]) x.aid.xs ++ [x.cls % 256, x.inst % 256]
set_option maxHeartbeats 1000000 in
theorem whole2_any (B p cb : Nat) (x : Ap) (w0 w : World) (bs : List Int) (hB : B = w0.heap.size) (hx : Hid (x.Ok w0)) (hd : Hid (Below B w0 w)) (hc : w.cell? ⟨cb, 0, none⟩ = some (.pointer (some ⟨p, 0, none⟩))) (hk : Kp 5 B p cb w)
    (hw : Hid (Wr 5 B p w bs)) (hl : bs.length + (apB x).length ≤ 1099511627776) :
    Puts 5 Tryz.prog 131 #[x.v, .pointer (some ⟨cb, 0, none⟩)] B p w bs (apB x) := by
  unfold Puts
  haveI : InW p w := ⟨hw.out.lt⟩
  haveI : InW cb w := ⟨hk.lt⟩
  haveI := hk
  have hBp := hw.out.le
  have hpw := hw.out.lt
  have hl1 : bs.length + (listB (fun n : Int => [n % 256]) x.aid.xs).length ≤ 1099511627776 := by simp only [apB, List.length_append] at hl; omega
  have hl2 : (bs ++ listB (fun n : Int => [n % 256]) x.aid.xs).length + 2 ≤ 1099511627776 := by simp only [apB, List.length_append, List.length_cons, List.length_nil] at hl ⊢; omega
  have hE : Hid (∀ w1 : World, Fr 5 B p w w1 → Wr 5 B p w1 bs → Puts 5 Tryz.prog 121 #[.pointer (some ⟨p, 0, none⟩), x.aid.v] B p w1 bs (listB (fun n : Int => [n % 256]) x.aid.xs)) :=
    fun w1 hf hW => aid_any B p x.aid w0 w1 bs hB hx.out.1 (hd.out.trans (hf.below hBp (by omega))) hW hl1
  go_enter Tryz.func131, Tryz.ntmps131
  go_wp2_with (go_at_call 121; refine (hE.out _ (by with_reducible repeat' (first | exact Fr.refl | exact Hid.out (by assumption) | refine Fr.alloc ?_ _ | refine fr_ext _ ?_ | refine fr_wx _ ?_ | refine Fr.drew ?_)) (by with_reducible repeat' (first | exact Hid.out (by assumption) | refine Wr.alloc ?_ _ | refine Wr.ext _ ?_ | refine Wr.drew ?_))).go.mono ?_; rintro e w' ⟨rfl, z, rfl, hz⟩; replace hz := hid hz)
  have e1 : z.val.cell? ⟨cb, 0, none⟩ = some (.pointer (some ⟨p, 0, none⟩)) := by simp [Wx.cell, alloc_cell_in, hc]
  have e2 : z.val.cell? ⟨w.heap.size, 1, none⟩ = some (.int .i64 x.cls) := by simp [Wx.cell]
  have e3 : z.val.cell? ⟨w.heap.size, 2, none⟩ = some (.int .i64 x.inst) := by simp [Wx.cell]
  go_region_held3 (fun w' => w'.cell? ⟨cb, 0, none⟩ = some (.pointer (some ⟨p, 0, none⟩)) ∧ w'.cell? ⟨w.heap.size, 1, none⟩ = some (.int .i64 x.cls) ∧ w'.cell? ⟨w.heap.size, 2, none⟩ = some (.int .i64 x.inst)) (first | (go_keep) | exact ⟨e1, e2, e3⟩ | (refine ⟨?_, ?_, ?_⟩ <;> simp [Wx.cell, alloc_cell_in, e1, e2, e3])) (first | (go_at_call 120; refine (put2 B p _ (x.cls) (x.inst) _ (bs ++ listB (fun n : Int => [n % 256]) x.aid.xs) inferInstance (by simp) (by simp) (by with_reducible repeat' (first | exact Hid.out (by assumption) | refine Wr.alloc ?_ _ | refine Wr.ext _ ?_ | refine Wr.drew ?_)) (hl2)).go.mono ?_; rintro e w' ⟨rfl, y, rfl, hy⟩))
  go_end0
  exact ⟨rfl, (by with_reducible repeat' (first | exact Fr.refl | exact Hid.out (by assumption) | refine Fr.alloc ?_ _ | refine fr_ext _ ?_ | refine fr_wx _ ?_ | refine Fr.drew ?_)), hy.eq (by simp [apB])⟩
end Go.Proofs.YthagkijplklemaaGreatDoor
end

section
namespace Go.Proofs.YthagkijplklemaaGreatDoor
open Go.ChangeShapes Go.WideShapes Go.ChangeAt Go.RowKit Go.Sc
set_option maxRecDepth 100000 in
set_option maxHeartbeats 4000000 in
theorem wclass_any (B p : Nat) (x : Cl) (w0 w : World) (bs : List Int) (hB : B = w0.heap.size) (hx : Hid (x.Ok w0)) (hd : Hid (Below B w0 w))
    (hw : Hid (Wr 5 B p w bs)) (hl : bs.length + (clB x).length ≤ 1099511627776) :
    Puts 5 Tryz.prog 125 #[.pointer (some ⟨p, 0, none⟩), x.v] B p w bs (clB x) := by
  unfold Puts
  haveI : InW p w := ⟨hw.out.lt⟩
  have hBp := hw.out.le
  have hpw := hw.out.lt
  have hE1 := rf_each B p x.ext w0 hB hx.out.ext
  have hE2 := ty_each B p x.fields w0 hB hx.out.fields
  have hE3 := int_each B p x.virt w0 hB hx.out.virt
  have hE4 := im_each B p w.heap.size x.impls w0 hB hx.out.impls
  obtain ⟨f, hf⟩ : ∃ f : Int, f = (if x.isI then 1 else 0) := ⟨_, rfl⟩
  have hl0 : bs.length + 1 ≤ 1099511627776 := by simp [clB] at hl; omega
  have hl1 : (bs ++ [f]).length + 2 ≤ 1099511627776 := by simp [clB] at hl ⊢; omega
  have hl2 : (bs ++ [f] ++ rfB x.super).length + (listB rfB x.ext.xs).length ≤ 1099511627776 := by simp only [clB, List.length_append, List.length_singleton] at hl ⊢; omega
  have hl3 : (bs ++ [f] ++ rfB x.super ++ listB rfB x.ext.xs).length + (listB typB x.fields.xs).length ≤ 1099511627776 := by simp only [clB, List.length_append, List.length_singleton] at hl ⊢; omega
  have hl4 : (bs ++ [f] ++ rfB x.super ++ listB rfB x.ext.xs ++ listB typB x.fields.xs).length + (listB byteB x.virt.xs).length ≤ 1099511627776 := by simp only [clB, List.length_append, List.length_singleton] at hl ⊢; omega
  have hl5 : (bs ++ [f] ++ rfB x.super ++ listB rfB x.ext.xs ++ listB typB x.fields.xs ++ listB byteB x.virt.xs).length + (listB imB x.impls.xs).length ≤ 1099511627776 := by simp only [clB, List.length_append, List.length_singleton] at hl ⊢; omega
  cases hI : x.isI
  · simp [hI] at hf
    subst hf
    go_enter Tryz.func125, Tryz.ntmps125
    go_wp2_with fail
    go_region_held3 (fun w' => w'.cell? ⟨w.heap.size, 0, none⟩ = some (.pointer (some ⟨p, 0, none⟩)) ∧ w'.cell? ⟨w.heap.size + 1, 2, none⟩ = some (.bool false)) (first | (go_keep) | (refine ⟨?_, ?_⟩ <;> simp [Wx.cell, Ext.cell, alloc_cell_in])) (first | (go_at_call 181; refine (flagF _ _).go.mono ?_; rintro e w' ⟨rfl, xw, rfl⟩) | (go_at_call 120; refine (put1 B p _ (0) _ (bs) inferInstance (by simp) (by with_reducible repeat' (first | exact Hid.out (by assumption) | refine Wr.alloc ?_ _ | refine Wr.ext _ ?_ | refine Wr.drew ?_)) (hl0)).go.mono ?_; rintro e w' ⟨rfl, y, rfl, hy⟩))
    have hy' := hid (hy.eq (cs := bs ++ [0]) (by simp))
    go_wp2_with (first | (go_at_call 182; refine (ref_any B p x.super _ (bs ++ [0]) (hid (by with_reducible repeat' (first | exact Hid.out (by assumption) | refine Wr.alloc ?_ _ | refine Wr.ext _ ?_ | refine Wr.drew ?_))) hl1).go.mono ?_; rintro e w' ⟨rfl, z, rfl, hz⟩; replace hz := hid hz) | (go_at_call 183; refine (hE1.out _ (bs ++ [0] ++ rfB x.super) (hd.out.trans (Fr.below (p := p) (U := 5) (by with_reducible repeat' (first | exact Fr.refl | exact Hid.out (by assumption) | refine Fr.alloc ?_ _ | refine fr_ext _ ?_ | refine fr_wx _ ?_ | refine Fr.drew ?_)) hBp (by omega))) (by with_reducible repeat' (first | exact Hid.out (by assumption) | refine Wr.alloc ?_ _ | refine Wr.ext _ ?_ | refine Wr.drew ?_)) hl2).go.mono ?_; rintro e w' ⟨rfl, z, rfl, hz⟩; replace hz := hid hz) | (go_at_call 128; refine (hE2.out _ (bs ++ [0] ++ rfB x.super ++ listB rfB x.ext.xs) (hd.out.trans (Fr.below (p := p) (U := 5) (by with_reducible repeat' (first | exact Fr.refl | exact Hid.out (by assumption) | refine Fr.alloc ?_ _ | refine fr_ext _ ?_ | refine fr_wx _ ?_ | refine Fr.drew ?_)) hBp (by omega))) (by with_reducible repeat' (first | exact Hid.out (by assumption) | refine Wr.alloc ?_ _ | refine Wr.ext _ ?_ | refine Wr.drew ?_)) hl3).go.mono ?_; rintro e w' ⟨rfl, z, rfl, hz⟩; replace hz := hid hz) | (go_at_call 184; refine (hE3.out _ (bs ++ [0] ++ rfB x.super ++ listB rfB x.ext.xs ++ listB typB x.fields.xs) (hd.out.trans (Fr.below (p := p) (U := 5) (by with_reducible repeat' (first | exact Fr.refl | exact Hid.out (by assumption) | refine Fr.alloc ?_ _ | refine fr_ext _ ?_ | refine fr_wx _ ?_ | refine Fr.drew ?_)) hBp (by omega))) (by with_reducible repeat' (first | exact Hid.out (by assumption) | refine Wr.alloc ?_ _ | refine Wr.ext _ ?_ | refine Wr.drew ?_)) hl4).go.mono ?_; rintro e w' ⟨rfl, z, rfl, hz⟩; replace hz := hid hz) | (go_at_call 186; refine (hE4.out _ (bs ++ [0] ++ rfB x.super ++ listB rfB x.ext.xs ++ listB typB x.fields.xs ++ listB byteB x.virt.xs) (by simp [Wx.cell, Ext.cell, alloc_cell_in]) inferInstance (hd.out.trans (Fr.below (p := p) (U := 5) (by with_reducible repeat' (first | exact Fr.refl | exact Hid.out (by assumption) | refine Fr.alloc ?_ _ | refine fr_ext _ ?_ | refine fr_wx _ ?_ | refine Fr.drew ?_)) hBp (by omega))) (by with_reducible repeat' (first | exact Hid.out (by assumption) | refine Wr.alloc ?_ _ | refine Wr.ext _ ?_ | refine Wr.drew ?_)) hl5).go.mono ?_; rintro e w' ⟨rfl, z, rfl, hz⟩; replace hz := hid hz))
    go_end0
    exact ⟨rfl, (by with_reducible repeat' (first | exact Fr.refl | exact Hid.out (by assumption) | refine Fr.alloc ?_ _ | refine fr_ext _ ?_ | refine fr_wx _ ?_ | refine Fr.drew ?_)), hz.out.eq (by unfold clB; simp [hI])⟩
  · simp [hI] at hf
    subst hf
    go_enter Tryz.func125, Tryz.ntmps125
    go_wp2_with fail
    go_region_held3 (fun w' => w'.cell? ⟨w.heap.size, 0, none⟩ = some (.pointer (some ⟨p, 0, none⟩)) ∧ w'.cell? ⟨w.heap.size + 1, 2, none⟩ = some (.bool true)) (first | (go_keep) | (refine ⟨?_, ?_⟩ <;> simp [Wx.cell, Ext.cell, alloc_cell_in])) (first | (go_at_call 181; refine (flagT _ _).go.mono ?_; rintro e w' ⟨rfl, xw, rfl⟩) | (go_at_call 120; refine (put1 B p _ (1) _ (bs) inferInstance (by simp) (by with_reducible repeat' (first | exact Hid.out (by assumption) | refine Wr.alloc ?_ _ | refine Wr.ext _ ?_ | refine Wr.drew ?_)) (hl0)).go.mono ?_; rintro e w' ⟨rfl, y, rfl, hy⟩))
    have hy' := hid (hy.eq (cs := bs ++ [1]) (by simp))
    go_wp2_with (first | (go_at_call 182; refine (ref_any B p x.super _ (bs ++ [1]) (hid (by with_reducible repeat' (first | exact Hid.out (by assumption) | refine Wr.alloc ?_ _ | refine Wr.ext _ ?_ | refine Wr.drew ?_))) hl1).go.mono ?_; rintro e w' ⟨rfl, z, rfl, hz⟩; replace hz := hid hz) | (go_at_call 183; refine (hE1.out _ (bs ++ [1] ++ rfB x.super) (hd.out.trans (Fr.below (p := p) (U := 5) (by with_reducible repeat' (first | exact Fr.refl | exact Hid.out (by assumption) | refine Fr.alloc ?_ _ | refine fr_ext _ ?_ | refine fr_wx _ ?_ | refine Fr.drew ?_)) hBp (by omega))) (by with_reducible repeat' (first | exact Hid.out (by assumption) | refine Wr.alloc ?_ _ | refine Wr.ext _ ?_ | refine Wr.drew ?_)) hl2).go.mono ?_; rintro e w' ⟨rfl, z, rfl, hz⟩; replace hz := hid hz) | (go_at_call 128; refine (hE2.out _ (bs ++ [1] ++ rfB x.super ++ listB rfB x.ext.xs) (hd.out.trans (Fr.below (p := p) (U := 5) (by with_reducible repeat' (first | exact Fr.refl | exact Hid.out (by assumption) | refine Fr.alloc ?_ _ | refine fr_ext _ ?_ | refine fr_wx _ ?_ | refine Fr.drew ?_)) hBp (by omega))) (by with_reducible repeat' (first | exact Hid.out (by assumption) | refine Wr.alloc ?_ _ | refine Wr.ext _ ?_ | refine Wr.drew ?_)) hl3).go.mono ?_; rintro e w' ⟨rfl, z, rfl, hz⟩; replace hz := hid hz) | (go_at_call 184; refine (hE3.out _ (bs ++ [1] ++ rfB x.super ++ listB rfB x.ext.xs ++ listB typB x.fields.xs) (hd.out.trans (Fr.below (p := p) (U := 5) (by with_reducible repeat' (first | exact Fr.refl | exact Hid.out (by assumption) | refine Fr.alloc ?_ _ | refine fr_ext _ ?_ | refine fr_wx _ ?_ | refine Fr.drew ?_)) hBp (by omega))) (by with_reducible repeat' (first | exact Hid.out (by assumption) | refine Wr.alloc ?_ _ | refine Wr.ext _ ?_ | refine Wr.drew ?_)) hl4).go.mono ?_; rintro e w' ⟨rfl, z, rfl, hz⟩; replace hz := hid hz) | (go_at_call 186; refine (hE4.out _ (bs ++ [1] ++ rfB x.super ++ listB rfB x.ext.xs ++ listB typB x.fields.xs ++ listB byteB x.virt.xs) (by simp [Wx.cell, Ext.cell, alloc_cell_in]) inferInstance (hd.out.trans (Fr.below (p := p) (U := 5) (by with_reducible repeat' (first | exact Fr.refl | exact Hid.out (by assumption) | refine Fr.alloc ?_ _ | refine fr_ext _ ?_ | refine fr_wx _ ?_ | refine Fr.drew ?_)) hBp (by omega))) (by with_reducible repeat' (first | exact Hid.out (by assumption) | refine Wr.alloc ?_ _ | refine Wr.ext _ ?_ | refine Wr.drew ?_)) hl5).go.mono ?_; rintro e w' ⟨rfl, z, rfl, hz⟩; replace hz := hid hz))
    go_end0
    exact ⟨rfl, (by with_reducible repeat' (first | exact Fr.refl | exact Hid.out (by assumption) | refine Fr.alloc ?_ _ | refine fr_ext _ ?_ | refine fr_wx _ ?_ | refine Fr.drew ?_)), hz.out.eq (by unfold clB; simp [hI])⟩
end Go.Proofs.YthagkijplklemaaGreatDoor
end
