/- Check of the program: classes. Check of the program: a class, all classes. Check of the program: the lists of a package. -/
import Derived.Test.YthagkijplklemaaGreatDoorM07
import Derived.Test.YthagkijplklemaaGreatDoorM01
import Derived.Test.YthagkijplklemaaGreatDoorM08
import Derived.Test.YthagkijplklemaaGreatDoorM09
section
namespace Go.Proofs.YthagkijplklemaaGreatDoor
open Go.ChangeShapes Go.WideShapes Go.ChangeAt Go.RowKit Go.Sc
theorem class2_any (p : Pk) (i : Nat) (m n : Int) (x : Cl) (cb nb xb : Nat) (w : World) (hp : Hid (p.Ok w)) (hx : Hid (x.Ok w)) (hi : i < x.virt.xs.length) (hc : Hid (PkAt w cb p)) (hn : Hid (CellAt w nb 0 (.int .i64 n))) (hxb : Hid (ClAt w xb x)) :
    Gives Tryz.prog 158 #[.int .i64 i, .int .i64 m, .pointer (some ⟨cb, 0, none⟩), .pointer (some ⟨nb, 0, none⟩), .pointer (some ⟨xb, 0, none⟩)] w (.int .i64 (virtE p n x i m)) := by
  obtain ⟨hlt, c0, c1, c2, c3, c4, c5, c6, c7⟩ := hc.out
  haveI : InW cb w := ⟨hlt⟩
  obtain ⟨hlt', d0⟩ := hn.out
  haveI : InW nb w := ⟨hlt'⟩
  obtain ⟨hlt2, e0, e1, e2, e3, e4, e5, e6⟩ := hxb.out
  haveI : InW xb w := ⟨hlt2⟩
  unfold Gives
  go_enter Tryz.func158, Tryz.ntmps158
  go_wp2_with ((go_at_call 159; refine (virtual_any p n x i m _ (hp.out.mono (by with_reducible repeat' (first | exact Below.refl _ _ | exact Nat.le_refl _ | refine Below.alloc ?_ ?_ _ | refine below_ext _ ?_ ?_ | refine Below.drew ?_ | refine Below.setCell ?_ ?_ _ | refine le_alloc ?_ | refine Ext.le_size _ ?_ | refine le_drew ?_ | refine le_setCell ?_))) (eCl.mono (by with_reducible repeat' (first | exact Below.refl _ _ | exact Nat.le_refl _ | refine Below.alloc ?_ ?_ _ | refine below_ext _ ?_ ?_ | refine Below.drew ?_ | refine Below.setCell ?_ ?_ _ | refine le_alloc ?_ | refine Ext.le_size _ ?_ | refine le_drew ?_ | refine le_setCell ?_)) hx.out) hi).go.mono ?_; rintro e w' ⟨rfl, xw, rfl⟩))
  go_ret
  exact ⟨rfl, (by with_reducible repeat' (first | exact Below.refl _ _ | exact Nat.le_refl _ | refine Below.alloc ?_ ?_ _ | refine below_ext _ ?_ ?_ | refine Below.drew ?_ | refine Below.setCell ?_ ?_ _ | refine le_alloc ?_ | refine Ext.le_size _ ?_ | refine le_drew ?_ | refine le_setCell ?_))⟩
set_option maxRecDepth 20000 in
theorem first_int (s : Sl Int) (F : Nat → Int → Int) (c0 c1 c2 : Value) (w : World) (hs : Hid (s.Ok eInt 1 w))
    (hf : Hid (∀ (k : Nat) (x : Int) (W : World), Below w.heap.size w W → s.xs[k]? = some x → Gives Tryz.prog 158 #[.int .i64 k, .int .i64 x, c0, c1, c2] W (.int .i64 (F k x)))) :
    Gives Tryz.prog 157 #[s.v, .func (.func 158) #[] #[c0, c1, c2]] w (.int .i64 (firstE F 0 s.xs)) := by
  obtain ⟨a, c, xs⟩ := s
  have hle := hs.out.le
  have hmx := hs.out.max
  simp only at hle hmx
  show Gives _ _ #[.slice a xs.length c, .func (.func 158) _ _] _ _
  unfold Gives
  go_enter Tryz.func157, Tryz.ntmps157
  go_wp2_with fail
  go_loopw [10] (fun i wr => ∃ k : Nat, k ≤ xs.length ∧ i = .int .i64 k ∧ (∀ (j : Nat) (x : Int), j < k → xs[j]? = some x → F j x = 0) ∧ ∃ x : Ext w, wr = x.val) (fun i _ => xs.length - (intOf i).toNat)
  case atStart => exact ⟨0, Nat.zero_le _, rfl, fun _ _ h => absurd h (by omega), ⟨w, Below.refl _ _⟩, rfl⟩
  case round =>
    obtain ⟨k, hk, rfl, hz, x, rfl⟩ := hrel
    have HZ := hid hz
    clear hz
    by_cases hlt : k < xs.length
    · obtain ⟨y, hy⟩ := getElem?_of_lt hlt
      obtain ⟨hok, b, off, hba, hbl, hc⟩ := hs.out.at_ k y hy
      simp only at hba
      subst hba
      have h0 := hc 0 _ rfl; simp only [Nat.add_zero, Nat.mul_one] at h0
      haveI : InW b w := ⟨hbl⟩
      have HY := hid hy
      clear hc hok hy hbl
      have hk1 : (0 : Int) ≤ (k : Int) := by omega
      have hk2 : (k : Int) < (xs.length : Int) := by omega
      by_cases hF : F k y = 0
      · have hF' : (F k y != 0) = false := by simp [hF]
        have HF := hid hF
        clear hF
        go_wp2_with (go_at_call 158; refine (hf.out k y _ (by with_reducible repeat' (first | exact Below.refl _ _ | exact Nat.le_refl _ | refine Below.alloc ?_ ?_ _ | refine below_ext _ ?_ ?_ | refine Below.drew ?_ | refine Below.setCell ?_ ?_ _ | refine le_alloc ?_ | refine Ext.le_size _ ?_ | refine le_drew ?_ | refine le_setCell ?_)) HY.out).go.mono ?_; rintro e w' ⟨rfl, x, rfl⟩)
        go_roundw
        case rel => exact ⟨k + 1, by omega, by go_num, fun j z hj hzz => by
            rcases Nat.lt_succ_iff_lt_or_eq.1 hj with h | rfl
            · exact HZ.out j z h hzz
            · have := HY.out.symm.trans hzz; cases this; exact HF.out, ⟨_, (by with_reducible repeat' (first | exact Below.refl _ _ | exact Nat.le_refl _ | refine Below.alloc ?_ ?_ _ | refine below_ext _ ?_ ?_ | refine Below.drew ?_ | refine Below.setCell ?_ ?_ _ | refine le_alloc ?_ | refine Ext.le_size _ ?_ | refine le_drew ?_ | refine le_setCell ?_))⟩, rfl⟩
        case measure => simp [intOf]; omega
      · have hF' : (F k y != 0) = true := by simp [hF]
        have HF := hid hF
        clear hF
        go_wp2_with (go_at_call 158; refine (hf.out k y _ (by with_reducible repeat' (first | exact Below.refl _ _ | exact Nat.le_refl _ | refine Below.alloc ?_ ?_ _ | refine below_ext _ ?_ ?_ | refine Below.drew ?_ | refine Below.setCell ?_ ?_ _ | refine le_alloc ?_ | refine Ext.le_size _ ?_ | refine le_drew ?_ | refine le_setCell ?_)) HY.out).go.mono ?_; rintro e w' ⟨rfl, x, rfl⟩)
        go_ret
        refine ⟨ret_int ?_, (by with_reducible repeat' (first | exact Below.refl _ _ | exact Nat.le_refl _ | refine Below.alloc ?_ ?_ _ | refine below_ext _ ?_ ?_ | refine Below.drew ?_ | refine Below.setCell ?_ ?_ _ | refine le_alloc ?_ | refine Ext.le_size _ ?_ | refine le_drew ?_ | refine le_setCell ?_))⟩
        have := firstE_some (F := F) (n := 0) (k := k) (y := y) (by simpa using HZ.out) HY.out (by simpa using HF.out)
        simp only [Nat.zero_add] at this
        exact this.symm
    · go_wp2_with fail
      go_ret
      refine ⟨ret_int ?_, (by with_reducible repeat' (first | exact Below.refl _ _ | exact Nat.le_refl _ | refine Below.alloc ?_ ?_ _ | refine below_ext _ ?_ ?_ | refine Below.drew ?_ | refine Below.setCell ?_ ?_ _ | refine le_alloc ?_ | refine Ext.le_size _ ?_ | refine le_drew ?_ | refine le_setCell ?_))⟩
      refine (firstE_none fun j z hz => ?_).symm
      rw [Nat.zero_add]
      exact HZ.out j z (by have := (List.getElem?_eq_some_iff.1 hz).1; omega) hz
theorem class32_any (m : Int) (w : World) : Gives Tryz.prog 166 #[.int .i64 m] w (.bool (!below m 16)) := by
  unfold Gives
  go_enter Tryz.func166, Tryz.ntmps166
  go_wp2_with ((go_at_call 111; refine (within_any _ _ _).go.mono ?_; rintro e w' ⟨rfl, xw, rfl⟩))
  all_goals
    go_ret
    exact ⟨ret_bool (by grind), (by with_reducible repeat' (first | exact Below.refl _ _ | exact Nat.le_refl _ | refine Below.alloc ?_ ?_ _ | refine below_ext _ ?_ ?_ | refine Below.drew ?_ | refine Below.setCell ?_ ?_ _ | refine le_alloc ?_ | refine Ext.le_size _ ?_ | refine le_drew ?_ | refine le_setCell ?_))⟩
set_option maxRecDepth 20000 in
theorem cont_int_idx (s : Sl Int) (F : Int → Bool)  (w : World) (hs : Hid (s.Ok eInt 1 w))
    (hf : Hid (∀ (k : Nat) (x : Int) (W : World), Below w.heap.size w W → s.xs[k]? = some x → Gives Tryz.prog 166 #[.int .i64 x] W (.bool (F x)))) :
    Gives Tryz.prog 211 #[s.v, .func (.func 166) #[] #[]] w (.int .i64 (idxF F 0 s.xs)) := by
  obtain ⟨a, c, xs⟩ := s
  have hle := hs.out.le
  have hmx := hs.out.max
  simp only at hle hmx
  show Gives _ _ #[.slice a xs.length c, .func (.func 166) _ _] _ _
  unfold Gives
  go_enter Tryz.func211, Tryz.ntmps211
  go_wp2_with fail
  go_loopw [8] (fun i wr => ∃ k : Nat, k ≤ xs.length ∧ i = .int .i64 k ∧ (∀ (j : Nat) (x : Int), j < k → xs[j]? = some x → F x = false) ∧ ∃ x : Ext w, wr = x.val) (fun i _ => xs.length - (intOf i).toNat)
  case atStart => exact ⟨0, Nat.zero_le _, rfl, fun _ _ h => absurd h (by omega), ⟨w, Below.refl _ _⟩, rfl⟩
  case round =>
    obtain ⟨k, hk, rfl, hz, x, rfl⟩ := hrel
    have HZ := hid hz
    clear hz
    by_cases hlt : k < xs.length
    · obtain ⟨y, hy⟩ := getElem?_of_lt hlt
      obtain ⟨hok, b, off, hba, hbl, hc⟩ := hs.out.at_ k y hy
      simp only at hba
      subst hba
      have h0 := hc 0 _ rfl; simp only [Nat.add_zero, Nat.mul_one] at h0
      haveI : InW b w := ⟨hbl⟩
      have HY := hid hy
      clear hc hok hy hbl
      have hk1 : (0 : Int) ≤ (k : Int) := by omega
      have hk2 : (k : Int) < (xs.length : Int) := by omega
      by_cases hF : F y = false
      · have HF := hid hF
        go_wp2_with (go_at_call 166; refine (hf.out k y _ (by with_reducible repeat' (first | exact Below.refl _ _ | exact Nat.le_refl _ | refine Below.alloc ?_ ?_ _ | refine below_ext _ ?_ ?_ | refine Below.drew ?_ | refine Below.setCell ?_ ?_ _ | refine le_alloc ?_ | refine Ext.le_size _ ?_ | refine le_drew ?_ | refine le_setCell ?_)) HY.out).go.mono ?_; rintro e w' ⟨rfl, x, rfl⟩)
        go_roundw
        case rel => exact ⟨k + 1, by omega, by go_num, fun j z hj hzz => by
            rcases Nat.lt_succ_iff_lt_or_eq.1 hj with h | rfl
            · exact HZ.out j z h hzz
            · have := HY.out.symm.trans hzz; cases this; exact HF.out, ⟨_, (by with_reducible repeat' (first | exact Below.refl _ _ | exact Nat.le_refl _ | refine Below.alloc ?_ ?_ _ | refine below_ext _ ?_ ?_ | refine Below.drew ?_ | refine Below.setCell ?_ ?_ _ | refine le_alloc ?_ | refine Ext.le_size _ ?_ | refine le_drew ?_ | refine le_setCell ?_))⟩, rfl⟩
        case measure => simp [intOf]; omega
      · simp only [Bool.not_eq_false] at hF
        have HF := hid hF
        go_wp2_with (go_at_call 166; refine (hf.out k y _ (by with_reducible repeat' (first | exact Below.refl _ _ | exact Nat.le_refl _ | refine Below.alloc ?_ ?_ _ | refine below_ext _ ?_ ?_ | refine Below.drew ?_ | refine Below.setCell ?_ ?_ _ | refine le_alloc ?_ | refine Ext.le_size _ ?_ | refine le_drew ?_ | refine le_setCell ?_)) HY.out).go.mono ?_; rintro e w' ⟨rfl, x, rfl⟩)
        go_ret
        refine ⟨ret_int ?_, (by with_reducible repeat' (first | exact Below.refl _ _ | exact Nat.le_refl _ | refine Below.alloc ?_ ?_ _ | refine below_ext _ ?_ ?_ | refine Below.drew ?_ | refine Below.setCell ?_ ?_ _ | refine le_alloc ?_ | refine Ext.le_size _ ?_ | refine le_drew ?_ | refine le_setCell ?_))⟩
        have := idxF_some (p := F) (n := 0) (k := k) (y := y) HZ.out HY.out HF.out
        simp only [Nat.zero_add] at this
        exact this.symm
    · go_wp2_with fail
      go_ret
      refine ⟨ret_int ?_, (by with_reducible repeat' (first | exact Below.refl _ _ | exact Nat.le_refl _ | refine Below.alloc ?_ ?_ _ | refine below_ext _ ?_ ?_ | refine Below.drew ?_ | refine Below.setCell ?_ ?_ _ | refine le_alloc ?_ | refine Ext.le_size _ ?_ | refine le_drew ?_ | refine le_setCell ?_))⟩
      refine (idxF_none fun j z hz => ?_).symm
      exact HZ.out j z (by have := (List.getElem?_eq_some_iff.1 hz).1; omega) hz
theorem cont_int (s : Sl Int) (F : Int → Bool)  (w : World) (hs : Hid (s.Ok eInt 1 w))
    (hf : Hid (∀ (k : Nat) (x : Int) (W : World), Below w.heap.size w W → s.xs[k]? = some x → Gives Tryz.prog 166 #[.int .i64 x] W (.bool (F x)))) :
    Gives Tryz.prog 165 #[s.v, .func (.func 166) #[] #[]] w (.bool (s.xs.any F)) := by
  obtain ⟨a, c, xs⟩ := s
  show Gives _ _ #[.slice a xs.length c, .func (.func 166) _ _] _ _
  unfold Gives
  go_enter Tryz.func165, Tryz.ntmps165
  go_wp2_with (go_at_call 211; refine (cont_int_idx ⟨a, c, xs⟩ F w hs hf).go.mono ?_; rintro e w' ⟨rfl, x, rfl⟩)
  go_ret
  exact ⟨ret_bool idxF_any, (by with_reducible repeat' (first | exact Below.refl _ _ | exact Nat.le_refl _ | refine Below.alloc ?_ ?_ _ | refine below_ext _ ?_ ?_ | refine Below.drew ?_ | refine Below.setCell ?_ ?_ _ | refine le_alloc ?_ | refine Ext.le_size _ ?_ | refine le_drew ?_ | refine le_setCell ?_))⟩
theorem class31_any (z : Im) (yb : Nat) (y : Rf) (w : World) (h0 : Hid (CellAt w yb 0 (.int .i64 y.p))) (h1 : Hid (CellAt w yb 1 (.int .i64 y.c))) :
    Gives Tryz.prog 164 #[z.v, .pointer (some ⟨yb, 0, none⟩)] w (.bool (rfEq z.i y)) := by
  have d0 := h0.out.at_
  have d1 := h1.out.at_
  haveI : InW yb w := ⟨h0.out.lt⟩
  unfold Gives
  go_enter Tryz.func164, Tryz.ntmps164
  go_wp2_with fail
  all_goals
    go_ret
    exact ⟨ret_bool (by unfold rfEq; grind), (by with_reducible repeat' (first | exact Below.refl _ _ | exact Nat.le_refl _ | refine Below.alloc ?_ ?_ _ | refine below_ext _ ?_ ?_ | refine Below.drew ?_ | refine Below.setCell ?_ ?_ _ | refine le_alloc ?_ | refine Ext.le_size _ ?_ | refine le_drew ?_ | refine le_setCell ?_))⟩
set_option maxRecDepth 20000 in
theorem cont_impl_idx (s : Sl Im) (F : Im → Bool) {c0 : Value} (w : World) (hs : Hid (s.Ok eIm 3 w))
    (hf : Hid (∀ (k : Nat) (x : Im) (W : World), Below w.heap.size w W → s.xs[k]? = some x → Gives Tryz.prog 164 #[x.v, c0] W (.bool (F x)))) :
    Gives Tryz.prog 210 #[s.v, .func (.func 164) #[] #[c0]] w (.int .i64 (idxF F 0 s.xs)) := by
  obtain ⟨a, c, xs⟩ := s
  have hle := hs.out.le
  have hmx := hs.out.max
  simp only at hle hmx
  show Gives _ _ #[.slice a xs.length c, .func (.func 164) _ _] _ _
  unfold Gives
  go_enter Tryz.func210, Tryz.ntmps210
  go_wp2_with fail
  go_loopw [8] (fun i wr => ∃ k : Nat, k ≤ xs.length ∧ i = .int .i64 k ∧ (∀ (j : Nat) (x : Im), j < k → xs[j]? = some x → F x = false) ∧ ∃ x : Ext w, wr = x.val) (fun i _ => xs.length - (intOf i).toNat)
  case atStart => exact ⟨0, Nat.zero_le _, rfl, fun _ _ h => absurd h (by omega), ⟨w, Below.refl _ _⟩, rfl⟩
  case round =>
    obtain ⟨k, hk, rfl, hz, x, rfl⟩ := hrel
    have HZ := hid hz
    clear hz
    by_cases hlt : k < xs.length
    · obtain ⟨y, hy⟩ := getElem?_of_lt hlt
      obtain ⟨hok, b, off, hba, hbl, hc⟩ := hs.out.at_ k y hy
      simp only at hba
      subst hba
      have h0 := hc 0 _ rfl; have h1 := hc 1 _ rfl; have h2 := hc 2 _ rfl; simp only [Nat.add_zero] at h0
      haveI : InW b w := ⟨hbl⟩
      have HY := hid hy
      clear hc hok hy hbl
      have hk1 : (0 : Int) ≤ (k : Int) := by omega
      have hk2 : (k : Int) < (xs.length : Int) := by omega
      by_cases hF : F y = false
      · have HF := hid hF
        go_wp2_with (go_at_call 164; refine (hf.out k y _ (by with_reducible repeat' (first | exact Below.refl _ _ | exact Nat.le_refl _ | refine Below.alloc ?_ ?_ _ | refine below_ext _ ?_ ?_ | refine Below.drew ?_ | refine Below.setCell ?_ ?_ _ | refine le_alloc ?_ | refine Ext.le_size _ ?_ | refine le_drew ?_ | refine le_setCell ?_)) HY.out).go.mono ?_; rintro e w' ⟨rfl, x, rfl⟩)
        go_roundw
        case rel => exact ⟨k + 1, by omega, by go_num, fun j z hj hzz => by
            rcases Nat.lt_succ_iff_lt_or_eq.1 hj with h | rfl
            · exact HZ.out j z h hzz
            · have := HY.out.symm.trans hzz; cases this; exact HF.out, ⟨_, (by with_reducible repeat' (first | exact Below.refl _ _ | exact Nat.le_refl _ | refine Below.alloc ?_ ?_ _ | refine below_ext _ ?_ ?_ | refine Below.drew ?_ | refine Below.setCell ?_ ?_ _ | refine le_alloc ?_ | refine Ext.le_size _ ?_ | refine le_drew ?_ | refine le_setCell ?_))⟩, rfl⟩
        case measure => simp [intOf]; omega
      · simp only [Bool.not_eq_false] at hF
        have HF := hid hF
        go_wp2_with (go_at_call 164; refine (hf.out k y _ (by with_reducible repeat' (first | exact Below.refl _ _ | exact Nat.le_refl _ | refine Below.alloc ?_ ?_ _ | refine below_ext _ ?_ ?_ | refine Below.drew ?_ | refine Below.setCell ?_ ?_ _ | refine le_alloc ?_ | refine Ext.le_size _ ?_ | refine le_drew ?_ | refine le_setCell ?_)) HY.out).go.mono ?_; rintro e w' ⟨rfl, x, rfl⟩)
        go_ret
        refine ⟨ret_int ?_, (by with_reducible repeat' (first | exact Below.refl _ _ | exact Nat.le_refl _ | refine Below.alloc ?_ ?_ _ | refine below_ext _ ?_ ?_ | refine Below.drew ?_ | refine Below.setCell ?_ ?_ _ | refine le_alloc ?_ | refine Ext.le_size _ ?_ | refine le_drew ?_ | refine le_setCell ?_))⟩
        have := idxF_some (p := F) (n := 0) (k := k) (y := y) HZ.out HY.out HF.out
        simp only [Nat.zero_add] at this
        exact this.symm
    · go_wp2_with fail
      go_ret
      refine ⟨ret_int ?_, (by with_reducible repeat' (first | exact Below.refl _ _ | exact Nat.le_refl _ | refine Below.alloc ?_ ?_ _ | refine below_ext _ ?_ ?_ | refine Below.drew ?_ | refine Below.setCell ?_ ?_ _ | refine le_alloc ?_ | refine Ext.le_size _ ?_ | refine le_drew ?_ | refine le_setCell ?_))⟩
      refine (idxF_none fun j z hz => ?_).symm
      exact HZ.out j z (by have := (List.getElem?_eq_some_iff.1 hz).1; omega) hz
theorem cont_impl (s : Sl Im) (F : Im → Bool) {c0 : Value} (w : World) (hs : Hid (s.Ok eIm 3 w))
    (hf : Hid (∀ (k : Nat) (x : Im) (W : World), Below w.heap.size w W → s.xs[k]? = some x → Gives Tryz.prog 164 #[x.v, c0] W (.bool (F x)))) :
    Gives Tryz.prog 163 #[s.v, .func (.func 164) #[] #[c0]] w (.bool (s.xs.any F)) := by
  obtain ⟨a, c, xs⟩ := s
  show Gives _ _ #[.slice a xs.length c, .func (.func 164) _ _] _ _
  unfold Gives
  go_enter Tryz.func163, Tryz.ntmps163
  go_wp2_with (go_at_call 210; refine (cont_impl_idx ⟨a, c, xs⟩ F w hs hf).go.mono ?_; rintro e w' ⟨rfl, x, rfl⟩)
  go_ret
  exact ⟨ret_bool idxF_any, (by with_reducible repeat' (first | exact Below.refl _ _ | exact Nat.le_refl _ | refine Below.alloc ?_ ?_ _ | refine below_ext _ ?_ ?_ | refine Below.drew ?_ | refine Below.setCell ?_ ?_ _ | refine le_alloc ?_ | refine Ext.le_size _ ?_ | refine le_drew ?_ | refine le_setCell ?_))⟩
theorem contImpl_take (x : Cl) (k : Nat) (y : Im) (yb : Nat) (hk : k ≤ x.impls.xs.length) : Hid (∀ W : World, x.impls.Ok eIm 3 W → CellAt W yb 0 (.int .i64 y.i.p) → CellAt W yb 1 (.int .i64 y.i.c) →
    Gives Tryz.prog 163 #[.slice x.impls.a k x.impls.c, .func (.func 164) #[] #[.pointer (some ⟨yb, 0, none⟩)]] W (.bool ((x.impls.xs.take k).any (fun z => rfEq z.i y.i)))) := fun W hx h0 h1 => by
  have h := cont_impl (x.impls.take k) (fun z => rfEq z.i y.i) (c0 := .pointer (some ⟨yb, 0, none⟩)) W (hx.take k)
    (fun j z W' hb hz => class31_any z yb y.i W' (h0.mono hb) (h1.mono hb))
  rwa [Sl.v, Sl.take_len hk] at h
def implE (p : Pk) (x : Cl) (k : Nat) (y : Im) : Int :=
  if inRange p.imports.xs.length p.classes.xs.length y.i then
    if (x.impls.xs.take k).any (fun z => rfEq z.i y.i) then 13
    else if 16 < y.ms.xs.length then 3
    else if y.ms.xs.any (fun m => !below m 16) then 2 else 0
  else 2
theorem class3_any (p : Pk) (k : Nat) (y : Im) (x : Cl) (cb xb : Nat) (w : World) (hx : Hid (x.Ok w)) (hy : Hid (y.Ok w)) (hk : k < x.impls.xs.length) (hc : Hid (PkAt w cb p)) (hxb : Hid (ClAt w xb x)) :
    Gives Tryz.prog 161 #[.int .i64 k, y.v, .pointer (some ⟨cb, 0, none⟩), .pointer (some ⟨xb, 0, none⟩)] w (.int .i64 (implE p x k y)) := by
  obtain ⟨hlt, c0, c1, c2, c3, c4, c5, c6, c7⟩ := hc.out
  haveI : InW cb w := ⟨hlt⟩
  obtain ⟨hlt2, e0, e1, e2, e3, e4, e5, e6⟩ := hxb.out
  haveI : InW xb w := ⟨hlt2⟩
  clear e0 e1 e2 e3 e4 e5
  have hle := hx.out.impls.le
  have hmx := hx.out.impls.max
  have ht := contImpl_take x k y w.heap.size (by omega)
  have hk1 : (0 : Int) ≤ (k : Int) := by omega
  have hk2 : (k : Int) ≤ (x.impls.c : Int) := by omega
  have hf : Hid (∀ W : World, Ints W y.ms → Gives Tryz.prog 165 #[.slice y.ms.a y.ms.xs.length y.ms.c, .func (.func 166) #[] #[]] W (.bool (y.ms.xs.any fun m => !below m 16))) :=
    fun W h => cont_int y.ms _ W h (fun j m W' _ _ => class32_any m W')
  unfold Gives
  go_enter Tryz.func161, Tryz.ntmps161
  go_wp2_with (first | (go_at_call 162; refine (inRange_any p y.i _).go.mono ?_; rintro e w' ⟨rfl, xw, rfl⟩) | (go_at_call 163; refine (ht.out _ (hx.out.impls.mono (by with_reducible repeat' (first | exact Below.refl _ _ | exact Nat.le_refl _ | refine Below.alloc ?_ ?_ _ | refine below_ext _ ?_ ?_ | refine Below.drew ?_ | refine Below.setCell ?_ ?_ _ | refine le_alloc ?_ | refine Ext.le_size _ ?_ | refine le_drew ?_ | refine le_setCell ?_))) ((CellAt.new w _ _ 0 _ rfl).mono (by with_reducible repeat' (first | exact Below.refl _ _ | exact Nat.le_refl _ | refine Below.alloc ?_ ?_ _ | refine below_ext _ ?_ ?_ | refine Below.drew ?_ | refine Below.setCell ?_ ?_ _ | refine le_alloc ?_ | refine Ext.le_size _ ?_ | refine le_drew ?_ | refine le_setCell ?_))) ((CellAt.new w _ _ 1 _ rfl).mono (by with_reducible repeat' (first | exact Below.refl _ _ | exact Nat.le_refl _ | refine Below.alloc ?_ ?_ _ | refine below_ext _ ?_ ?_ | refine Below.drew ?_ | refine Below.setCell ?_ ?_ _ | refine le_alloc ?_ | refine Ext.le_size _ ?_ | refine le_drew ?_ | refine le_setCell ?_)))).go.mono ?_; rintro e w' ⟨rfl, xw, rfl⟩) | (go_at_call 165; refine (hf.out _ (hy.out.2.2.mono (by with_reducible repeat' (first | exact Below.refl _ _ | exact Nat.le_refl _ | refine Below.alloc ?_ ?_ _ | refine below_ext _ ?_ ?_ | refine Below.drew ?_ | refine Below.setCell ?_ ?_ _ | refine le_alloc ?_ | refine Ext.le_size _ ?_ | refine le_drew ?_ | refine le_setCell ?_)))).go.mono ?_; rintro e w' ⟨rfl, xw, rfl⟩))
  all_goals
    go_ret
    exact ⟨ret_int (by unfold implE; grind), (by with_reducible repeat' (first | exact Below.refl _ _ | exact Nat.le_refl _ | refine Below.alloc ?_ ?_ _ | refine below_ext _ ?_ ?_ | refine Below.drew ?_ | refine Below.setCell ?_ ?_ _ | refine le_alloc ?_ | refine Ext.le_size _ ?_ | refine le_drew ?_ | refine le_setCell ?_))⟩
set_option maxRecDepth 20000 in
theorem first_impl (s : Sl Im) (F : Nat → Im → Int) (c0 c1 : Value) (w : World) (hs : Hid (s.Ok eIm 3 w))
    (hf : Hid (∀ (k : Nat) (x : Im) (W : World), Below w.heap.size w W → s.xs[k]? = some x → Gives Tryz.prog 161 #[.int .i64 k, x.v, c0, c1] W (.int .i64 (F k x)))) :
    Gives Tryz.prog 160 #[s.v, .func (.func 161) #[] #[c0, c1]] w (.int .i64 (firstE F 0 s.xs)) := by
  obtain ⟨a, c, xs⟩ := s
  have hle := hs.out.le
  have hmx := hs.out.max
  simp only at hle hmx
  show Gives _ _ #[.slice a xs.length c, .func (.func 161) _ _] _ _
  unfold Gives
  go_enter Tryz.func160, Tryz.ntmps160
  go_wp2_with fail
  go_loopw [10] (fun i wr => ∃ k : Nat, k ≤ xs.length ∧ i = .int .i64 k ∧ (∀ (j : Nat) (x : Im), j < k → xs[j]? = some x → F j x = 0) ∧ ∃ x : Ext w, wr = x.val) (fun i _ => xs.length - (intOf i).toNat)
  case atStart => exact ⟨0, Nat.zero_le _, rfl, fun _ _ h => absurd h (by omega), ⟨w, Below.refl _ _⟩, rfl⟩
  case round =>
    obtain ⟨k, hk, rfl, hz, x, rfl⟩ := hrel
    have HZ := hid hz
    clear hz
    by_cases hlt : k < xs.length
    · obtain ⟨y, hy⟩ := getElem?_of_lt hlt
      obtain ⟨hok, b, off, hba, hbl, hc⟩ := hs.out.at_ k y hy
      simp only at hba
      subst hba
      have h0 := hc 0 _ rfl; have h1 := hc 1 _ rfl; have h2 := hc 2 _ rfl; simp only [Nat.add_zero] at h0
      haveI : InW b w := ⟨hbl⟩
      have HY := hid hy
      clear hc hok hy hbl
      have hk1 : (0 : Int) ≤ (k : Int) := by omega
      have hk2 : (k : Int) < (xs.length : Int) := by omega
      by_cases hF : F k y = 0
      · have hF' : (F k y != 0) = false := by simp [hF]
        have HF := hid hF
        clear hF
        go_wp2_with (go_at_call 161; refine (hf.out k y _ (by with_reducible repeat' (first | exact Below.refl _ _ | exact Nat.le_refl _ | refine Below.alloc ?_ ?_ _ | refine below_ext _ ?_ ?_ | refine Below.drew ?_ | refine Below.setCell ?_ ?_ _ | refine le_alloc ?_ | refine Ext.le_size _ ?_ | refine le_drew ?_ | refine le_setCell ?_)) HY.out).go.mono ?_; rintro e w' ⟨rfl, x, rfl⟩)
        go_roundw
        case rel => exact ⟨k + 1, by omega, by go_num, fun j z hj hzz => by
            rcases Nat.lt_succ_iff_lt_or_eq.1 hj with h | rfl
            · exact HZ.out j z h hzz
            · have := HY.out.symm.trans hzz; cases this; exact HF.out, ⟨_, (by with_reducible repeat' (first | exact Below.refl _ _ | exact Nat.le_refl _ | refine Below.alloc ?_ ?_ _ | refine below_ext _ ?_ ?_ | refine Below.drew ?_ | refine Below.setCell ?_ ?_ _ | refine le_alloc ?_ | refine Ext.le_size _ ?_ | refine le_drew ?_ | refine le_setCell ?_))⟩, rfl⟩
        case measure => simp [intOf]; omega
      · have hF' : (F k y != 0) = true := by simp [hF]
        have HF := hid hF
        clear hF
        go_wp2_with (go_at_call 161; refine (hf.out k y _ (by with_reducible repeat' (first | exact Below.refl _ _ | exact Nat.le_refl _ | refine Below.alloc ?_ ?_ _ | refine below_ext _ ?_ ?_ | refine Below.drew ?_ | refine Below.setCell ?_ ?_ _ | refine le_alloc ?_ | refine Ext.le_size _ ?_ | refine le_drew ?_ | refine le_setCell ?_)) HY.out).go.mono ?_; rintro e w' ⟨rfl, x, rfl⟩)
        go_ret
        refine ⟨ret_int ?_, (by with_reducible repeat' (first | exact Below.refl _ _ | exact Nat.le_refl _ | refine Below.alloc ?_ ?_ _ | refine below_ext _ ?_ ?_ | refine Below.drew ?_ | refine Below.setCell ?_ ?_ _ | refine le_alloc ?_ | refine Ext.le_size _ ?_ | refine le_drew ?_ | refine le_setCell ?_))⟩
        have := firstE_some (F := F) (n := 0) (k := k) (y := y) (by simpa using HZ.out) HY.out (by simpa using HF.out)
        simp only [Nat.zero_add] at this
        exact this.symm
    · go_wp2_with fail
      go_ret
      refine ⟨ret_int ?_, (by with_reducible repeat' (first | exact Below.refl _ _ | exact Nat.le_refl _ | refine Below.alloc ?_ ?_ _ | refine below_ext _ ?_ ?_ | refine Below.drew ?_ | refine Below.setCell ?_ ?_ _ | refine le_alloc ?_ | refine Ext.le_size _ ?_ | refine le_drew ?_ | refine le_setCell ?_))⟩
      refine (firstE_none fun j z hz => ?_).symm
      rw [Nat.zero_add]
      exact HZ.out j z (by have := (List.getElem?_eq_some_iff.1 hz).1; omega) hz
end Go.Proofs.YthagkijplklemaaGreatDoor
end

section
namespace Go.Proofs.YthagkijplklemaaGreatDoor
open Go.ChangeShapes Go.WideShapes Go.ChangeAt Go.RowKit Go.Sc
def clsE (p : Pk) (k : Int) (x : Cl) : Int :=
  if belowE p.imports.xs.length p.classes.xs.length x.super k = 0 then
    if (x.isI = true ∧ ((¬ x.super.p = 255 ∨ ¬ x.super.c = 0) ∨ 0 < x.fields.xs.length ∨ 0 < x.impls.xs.length)) ∨ (x.isI = false ∧ 0 < x.ext.xs.length) then 4
    else if 32 < x.ext.xs.length ∨ 16 < x.fields.xs.length ∨ 16 < x.virt.xs.length ∨ 32 < x.impls.xs.length then 3
    else if firstE (fun _ r => belowE p.imports.xs.length p.classes.xs.length r k) 0 x.ext.xs = 0 then
      if allUsable p x.fields.xs = true then
        if firstE (fun i m => virtE p k x i m) 0 x.virt.xs = 0 then firstE (implE p x) 0 x.impls.xs
        else firstE (fun i m => virtE p k x i m) 0 x.virt.xs
      else 22
    else firstE (fun _ r => belowE p.imports.xs.length p.classes.xs.length r k) 0 x.ext.xs
  else belowE p.imports.xs.length p.classes.xs.length x.super k
theorem class_any (p : Pk) (k : Int) (x : Cl) (w : World) (hp : Hid (p.Ok w)) (hx : Hid (x.Ok w)) (hg : Hid (ObjAt w 0)) :
    Gives Tryz.prog 103 #[p.v, .int .i64 k, x.v] w (.int .i64 (clsE p k x)) := by
  obtain ⟨hglt, g0, g1⟩ := hg.out
  haveI : InW 0 w := ⟨hglt⟩
  have hr : Hid (∀ W : World, PkAt W w.heap.size p → CellAt W (w.heap.size + 1) 0 (.int .i64 k) → x.ext.Ok eRf 2 W → Gives Tryz.prog 155 #[x.ext.v, .func (.func 156) #[] #[.pointer (some ⟨w.heap.size, 0, none⟩), .pointer (some ⟨w.heap.size + 1, 0, none⟩)]] W (.int .i64 (firstE (fun _ r => belowE p.imports.xs.length p.classes.xs.length r k) 0 x.ext.xs))) :=
    fun W h0 h1 h2 => first_ref x.ext (fun _ r => belowE p.imports.xs.length p.classes.xs.length r k) _ _ W h2 (fun j r W' hb hr => class1_any p j r k _ _ W' (h0.mono hb) (h1.mono hb))
  have hv : Hid (∀ W : World, p.Ok W → x.Ok W → PkAt W w.heap.size p → CellAt W (w.heap.size + 1) 0 (.int .i64 k) → ClAt W (w.heap.size + 2) x → Gives Tryz.prog 157 #[x.virt.v, .func (.func 158) #[] #[.pointer (some ⟨w.heap.size, 0, none⟩), .pointer (some ⟨w.heap.size + 1, 0, none⟩), .pointer (some ⟨w.heap.size + 2, 0, none⟩)]] W (.int .i64 (firstE (fun i m => virtE p k x i m) 0 x.virt.xs))) :=
    fun W hp hx h0 h1 h2 => first_int x.virt (fun i m => virtE p k x i m) _ _ _ W hx.virt (fun j m W' hb hm => class2_any p j m k x _ _ _ W' (hp.mono hb) (eCl.mono hb hx) (List.getElem?_eq_some_iff.1 hm).1 (h0.mono hb) (h1.mono hb) (h2.mono hb))
  have hi : Hid (∀ W : World, x.Ok W → PkAt W w.heap.size p → ClAt W (w.heap.size + 2) x → Gives Tryz.prog 160 #[x.impls.v, .func (.func 161) #[] #[.pointer (some ⟨w.heap.size, 0, none⟩), .pointer (some ⟨w.heap.size + 2, 0, none⟩)]] W (.int .i64 (firstE (implE p x) 0 x.impls.xs))) :=
    fun W hx h0 h2 => first_impl x.impls (implE p x) _ _ W hx.impls (fun j y W' hb hy => class3_any p j y x _ _ W' (eCl.mono hb hx) ((hx.impls.mono hb).at_ j y hy).1 (List.getElem?_eq_some_iff.1 hy).1 (h0.mono hb) (h2.mono hb))
  cases hI : x.isI
  all_goals
   have hbx := hid (boxPNC w p k x hI 67 3 49)
   unfold Gives
   go_enter Tryz.func103, Tryz.ntmps103
   go_wp2_with (first | (go_at_call 154; refine (below_any p x.super k _).go.mono ?_; rintro e w' ⟨rfl, xw, rfl⟩) | (go_at_call 155; refine (hr.out _ (hbx.out.1.mono (by with_reducible repeat' (first | exact Below.refl _ _ | exact Nat.le_refl _ | refine Below.alloc ?_ ?_ _ | refine below_ext _ ?_ ?_ | refine Below.drew ?_ | refine Below.setCell ?_ ?_ _ | refine le_alloc ?_ | refine Ext.le_size _ ?_ | refine le_drew ?_ | refine le_setCell ?_))) (hbx.out.2.1.mono (by with_reducible repeat' (first | exact Below.refl _ _ | exact Nat.le_refl _ | refine Below.alloc ?_ ?_ _ | refine below_ext _ ?_ ?_ | refine Below.drew ?_ | refine Below.setCell ?_ ?_ _ | refine le_alloc ?_ | refine Ext.le_size _ ?_ | refine le_drew ?_ | refine le_setCell ?_))) (hx.out.ext.mono (by with_reducible repeat' (first | exact Below.refl _ _ | exact Nat.le_refl _ | refine Below.alloc ?_ ?_ _ | refine below_ext _ ?_ ?_ | refine Below.drew ?_ | refine Below.setCell ?_ ?_ _ | refine le_alloc ?_ | refine Ext.le_size _ ?_ | refine le_drew ?_ | refine le_setCell ?_)))).go.mono ?_; rintro e w' ⟨rfl, xw, rfl⟩) | (go_at_call 106; refine (allUsable_any p x.fields _ (hx.out.fields.mono (by with_reducible repeat' (first | exact Below.refl _ _ | exact Nat.le_refl _ | refine Below.alloc ?_ ?_ _ | refine below_ext _ ?_ ?_ | refine Below.drew ?_ | refine Below.setCell ?_ ?_ _ | refine le_alloc ?_ | refine Ext.le_size _ ?_ | refine le_drew ?_ | refine le_setCell ?_)))).go.mono ?_; rintro e w' ⟨rfl, xw, rfl⟩) | (go_at_call 157; refine (hv.out _ (hp.out.mono (by with_reducible repeat' (first | exact Below.refl _ _ | exact Nat.le_refl _ | refine Below.alloc ?_ ?_ _ | refine below_ext _ ?_ ?_ | refine Below.drew ?_ | refine Below.setCell ?_ ?_ _ | refine le_alloc ?_ | refine Ext.le_size _ ?_ | refine le_drew ?_ | refine le_setCell ?_))) (eCl.mono (by with_reducible repeat' (first | exact Below.refl _ _ | exact Nat.le_refl _ | refine Below.alloc ?_ ?_ _ | refine below_ext _ ?_ ?_ | refine Below.drew ?_ | refine Below.setCell ?_ ?_ _ | refine le_alloc ?_ | refine Ext.le_size _ ?_ | refine le_drew ?_ | refine le_setCell ?_)) hx.out) (hbx.out.1.mono (by with_reducible repeat' (first | exact Below.refl _ _ | exact Nat.le_refl _ | refine Below.alloc ?_ ?_ _ | refine below_ext _ ?_ ?_ | refine Below.drew ?_ | refine Below.setCell ?_ ?_ _ | refine le_alloc ?_ | refine Ext.le_size _ ?_ | refine le_drew ?_ | refine le_setCell ?_))) (hbx.out.2.1.mono (by with_reducible repeat' (first | exact Below.refl _ _ | exact Nat.le_refl _ | refine Below.alloc ?_ ?_ _ | refine below_ext _ ?_ ?_ | refine Below.drew ?_ | refine Below.setCell ?_ ?_ _ | refine le_alloc ?_ | refine Ext.le_size _ ?_ | refine le_drew ?_ | refine le_setCell ?_))) (hbx.out.2.2.mono (by with_reducible repeat' (first | exact Below.refl _ _ | exact Nat.le_refl _ | refine Below.alloc ?_ ?_ _ | refine below_ext _ ?_ ?_ | refine Below.drew ?_ | refine Below.setCell ?_ ?_ _ | refine le_alloc ?_ | refine Ext.le_size _ ?_ | refine le_drew ?_ | refine le_setCell ?_)))).go.mono ?_; rintro e w' ⟨rfl, xw, rfl⟩) | (go_at_call 160; refine (hi.out _ (eCl.mono (by with_reducible repeat' (first | exact Below.refl _ _ | exact Nat.le_refl _ | refine Below.alloc ?_ ?_ _ | refine below_ext _ ?_ ?_ | refine Below.drew ?_ | refine Below.setCell ?_ ?_ _ | refine le_alloc ?_ | refine Ext.le_size _ ?_ | refine le_drew ?_ | refine le_setCell ?_)) hx.out) (hbx.out.1.mono (by with_reducible repeat' (first | exact Below.refl _ _ | exact Nat.le_refl _ | refine Below.alloc ?_ ?_ _ | refine below_ext _ ?_ ?_ | refine Below.drew ?_ | refine Below.setCell ?_ ?_ _ | refine le_alloc ?_ | refine Ext.le_size _ ?_ | refine le_drew ?_ | refine le_setCell ?_))) (hbx.out.2.2.mono (by with_reducible repeat' (first | exact Below.refl _ _ | exact Nat.le_refl _ | refine Below.alloc ?_ ?_ _ | refine below_ext _ ?_ ?_ | refine Below.drew ?_ | refine Below.setCell ?_ ?_ _ | refine le_alloc ?_ | refine Ext.le_size _ ?_ | refine le_drew ?_ | refine le_setCell ?_)))).go.mono ?_; rintro e w' ⟨rfl, xw, rfl⟩))
   all_goals
     go_ret
     exact ⟨ret_int (by unfold clsE; grind), (by with_reducible repeat' (first | exact Below.refl _ _ | exact Nat.le_refl _ | refine Below.alloc ?_ ?_ _ | refine below_ext _ ?_ ?_ | refine Below.drew ?_ | refine Below.setCell ?_ ?_ _ | refine le_alloc ?_ | refine Ext.le_size _ ?_ | refine le_drew ?_ | refine le_setCell ?_))⟩
end Go.Proofs.YthagkijplklemaaGreatDoor
end

section
namespace Go.Proofs.YthagkijplklemaaGreatDoor
open Go.ChangeShapes Go.WideShapes Go.ChangeAt Go.RowKit Go.Sc
theorem method_any (p : Pk) (m : Me) (k : Int) (w : World) (hp : Hid (p.Ok w)) (hm : Hid (m.Ok w)) :
    Gives Tryz.prog 105 #[p.v, .int .i64 k, m.v] w (.int .i64 (metE p m)) := by
  cases hs : m.static with
  | true =>
    cases ha : m.abs with
    | true => exact method_tt p m k w hp hm hs ha
    | false => exact method_tf p m k w hp hm hs ha
  | false =>
    cases hb : below m.cls p.classes.xs.length with
    | false =>
      cases ha : m.abs with
      | true => exact method_fbt p m k w hp hm hs ha hb
      | false => exact method_fbf p m k w hp hm hs ha hb
    | true =>
      simp only [below, Bool.and_eq_true, decide_eq_true_eq] at hb
      obtain ⟨j, hj⟩ : ∃ j : Nat, m.cls = (j : Int) := ⟨m.cls.toNat, by omega⟩
      obtain ⟨c, hc⟩ := getElem?_of_lt (xs := p.classes.xs) (k := j) (by omega)
      cases ha : m.abs with
      | true =>
        cases hI : c.isI with
        | true => exact method_ftt p m k w j c hp hm hs ha hj hc hI
        | false => exact method_ftf p m k w j c hp hm hs ha hj hc hI
      | false =>
        cases hI : c.isI with
        | true => exact method_fft p m k w j c hp hm hs ha hj hc hI
        | false => exact method_fff p m k w j c hp hm hs ha hj hc hI
set_option maxRecDepth 20000 in
theorem first_imp (s : Sl Ip) (F : Nat → Ip → Int) (c0 : Value) (w : World) (hs : Hid (s.Ok eIp 3 w))
    (hf : Hid (∀ (k : Nat) (x : Ip) (W : World), Below w.heap.size w W → s.xs[k]? = some x → Gives Tryz.prog 99 #[.int .i64 k, x.v, c0] W (.int .i64 (F k x)))) :
    Gives Tryz.prog 98 #[s.v, .func (.func 99) #[] #[c0]] w (.int .i64 (firstE F 0 s.xs)) := by
  obtain ⟨a, c, xs⟩ := s
  have hle := hs.out.le
  have hmx := hs.out.max
  simp only at hle hmx
  show Gives _ _ #[.slice a xs.length c, .func (.func 99) _ _] _ _
  unfold Gives
  go_enter Tryz.func98, Tryz.ntmps98
  go_wp2_with fail
  go_loopw [10] (fun i wr => ∃ k : Nat, k ≤ xs.length ∧ i = .int .i64 k ∧ (∀ (j : Nat) (x : Ip), j < k → xs[j]? = some x → F j x = 0) ∧ ∃ x : Ext w, wr = x.val) (fun i _ => xs.length - (intOf i).toNat)
  case atStart => exact ⟨0, Nat.zero_le _, rfl, fun _ _ h => absurd h (by omega), ⟨w, Below.refl _ _⟩, rfl⟩
  case round =>
    obtain ⟨k, hk, rfl, hz, x, rfl⟩ := hrel
    have HZ := hid hz
    clear hz
    by_cases hlt : k < xs.length
    · obtain ⟨y, hy⟩ := getElem?_of_lt hlt
      obtain ⟨hok, b, off, hba, hbl, hc⟩ := hs.out.at_ k y hy
      simp only at hba
      subst hba
      have h0 := hc 0 _ rfl; have h1 := hc 1 _ rfl; have h2 := hc 2 _ rfl; simp only [Nat.add_zero] at h0
      haveI : InW b w := ⟨hbl⟩
      have HY := hid hy
      clear hc hok hy hbl
      have hk1 : (0 : Int) ≤ (k : Int) := by omega
      have hk2 : (k : Int) < (xs.length : Int) := by omega
      by_cases hF : F k y = 0
      · have hF' : (F k y != 0) = false := by simp [hF]
        have HF := hid hF
        clear hF
        go_wp2_with (go_at_call 99; refine (hf.out k y _ (by with_reducible repeat' (first | exact Below.refl _ _ | exact Nat.le_refl _ | refine Below.alloc ?_ ?_ _ | refine below_ext _ ?_ ?_ | refine Below.drew ?_ | refine Below.setCell ?_ ?_ _ | refine le_alloc ?_ | refine Ext.le_size _ ?_ | refine le_drew ?_ | refine le_setCell ?_)) HY.out).go.mono ?_; rintro e w' ⟨rfl, x, rfl⟩)
        go_roundw
        case rel => exact ⟨k + 1, by omega, by go_num, fun j z hj hzz => by
            rcases Nat.lt_succ_iff_lt_or_eq.1 hj with h | rfl
            · exact HZ.out j z h hzz
            · have := HY.out.symm.trans hzz; cases this; exact HF.out, ⟨_, (by with_reducible repeat' (first | exact Below.refl _ _ | exact Nat.le_refl _ | refine Below.alloc ?_ ?_ _ | refine below_ext _ ?_ ?_ | refine Below.drew ?_ | refine Below.setCell ?_ ?_ _ | refine le_alloc ?_ | refine Ext.le_size _ ?_ | refine le_drew ?_ | refine le_setCell ?_))⟩, rfl⟩
        case measure => simp [intOf]; omega
      · have hF' : (F k y != 0) = true := by simp [hF]
        have HF := hid hF
        clear hF
        go_wp2_with (go_at_call 99; refine (hf.out k y _ (by with_reducible repeat' (first | exact Below.refl _ _ | exact Nat.le_refl _ | refine Below.alloc ?_ ?_ _ | refine below_ext _ ?_ ?_ | refine Below.drew ?_ | refine Below.setCell ?_ ?_ _ | refine le_alloc ?_ | refine Ext.le_size _ ?_ | refine le_drew ?_ | refine le_setCell ?_)) HY.out).go.mono ?_; rintro e w' ⟨rfl, x, rfl⟩)
        go_ret
        refine ⟨ret_int ?_, (by with_reducible repeat' (first | exact Below.refl _ _ | exact Nat.le_refl _ | refine Below.alloc ?_ ?_ _ | refine below_ext _ ?_ ?_ | refine Below.drew ?_ | refine Below.setCell ?_ ?_ _ | refine le_alloc ?_ | refine Ext.le_size _ ?_ | refine le_drew ?_ | refine le_setCell ?_))⟩
        have := firstE_some (F := F) (n := 0) (k := k) (y := y) (by simpa using HZ.out) HY.out (by simpa using HF.out)
        simp only [Nat.zero_add] at this
        exact this.symm
    · go_wp2_with fail
      go_ret
      refine ⟨ret_int ?_, (by with_reducible repeat' (first | exact Below.refl _ _ | exact Nat.le_refl _ | refine Below.alloc ?_ ?_ _ | refine below_ext _ ?_ ?_ | refine Below.drew ?_ | refine Below.setCell ?_ ?_ _ | refine le_alloc ?_ | refine Ext.le_size _ ?_ | refine le_drew ?_ | refine le_setCell ?_))⟩
      refine (firstE_none fun j z hz => ?_).symm
      rw [Nat.zero_add]
      exact HZ.out j z (by have := (List.getElem?_eq_some_iff.1 hz).1; omega) hz
set_option maxHeartbeats 1000000 in
set_option maxRecDepth 20000 in
theorem first_cls (s : Sl Cl) (F : Nat → Cl → Int) (c0 : Value) (w : World) (hs : Hid (s.Ok eCl 7 w))
    (hf : Hid (∀ (k : Nat) (x : Cl) (W : World), Below w.heap.size w W → s.xs[k]? = some x → Gives Tryz.prog 103 #[c0, .int .i64 k, x.v] W (.int .i64 (F k x)))) :
    Gives Tryz.prog 102 #[s.v, .func (.func 103) #[c0] #[]] w (.int .i64 (firstE F 0 s.xs)) := by
  obtain ⟨a, c, xs⟩ := s
  have hle := hs.out.le
  have hmx := hs.out.max
  simp only at hle hmx
  show Gives _ _ #[.slice a xs.length c, .func (.func 103) _ _] _ _
  unfold Gives
  go_enter Tryz.func102, Tryz.ntmps102
  go_wp2_with fail
  go_loopw [10] (fun i wr => ∃ k : Nat, k ≤ xs.length ∧ i = .int .i64 k ∧ (∀ (j : Nat) (x : Cl), j < k → xs[j]? = some x → F j x = 0) ∧ ∃ x : Ext w, wr = x.val) (fun i _ => xs.length - (intOf i).toNat)
  case atStart => exact ⟨0, Nat.zero_le _, rfl, fun _ _ h => absurd h (by omega), ⟨w, Below.refl _ _⟩, rfl⟩
  case round =>
    obtain ⟨k, hk, rfl, hz, x, rfl⟩ := hrel
    have HZ := hid hz
    clear hz
    by_cases hlt : k < xs.length
    · obtain ⟨y, hy⟩ := getElem?_of_lt hlt
      obtain ⟨hok, b, off, hba, hbl, hc⟩ := hs.out.at_ k y hy
      simp only at hba
      subst hba
      have h0 := hc 0 _ rfl; have h1 := hc 1 _ rfl; have h2 := hc 2 _ rfl; have h3 := hc 3 _ rfl; have h4 := hc 4 _ rfl; have h5 := hc 5 _ rfl; have h6 := hc 6 _ rfl; simp only [Nat.add_zero] at h0
      haveI : InW b w := ⟨hbl⟩
      have HY := hid hy
      clear hc hok hy hbl
      have hk1 : (0 : Int) ≤ (k : Int) := by omega
      have hk2 : (k : Int) < (xs.length : Int) := by omega
      by_cases hF : F k y = 0
      · have hF' : (F k y != 0) = false := by simp [hF]
        have HF := hid hF
        clear hF
        go_wp2_with (go_at_call 103; refine (hf.out k y _ (by with_reducible repeat' (first | exact Below.refl _ _ | exact Nat.le_refl _ | refine Below.alloc ?_ ?_ _ | refine below_ext _ ?_ ?_ | refine Below.drew ?_ | refine Below.setCell ?_ ?_ _ | refine le_alloc ?_ | refine Ext.le_size _ ?_ | refine le_drew ?_ | refine le_setCell ?_)) HY.out).go.mono ?_; rintro e w' ⟨rfl, x, rfl⟩)
        go_roundw
        case rel => exact ⟨k + 1, by omega, by go_num, fun j z hj hzz => by
            rcases Nat.lt_succ_iff_lt_or_eq.1 hj with h | rfl
            · exact HZ.out j z h hzz
            · have := HY.out.symm.trans hzz; cases this; exact HF.out, ⟨_, (by with_reducible repeat' (first | exact Below.refl _ _ | exact Nat.le_refl _ | refine Below.alloc ?_ ?_ _ | refine below_ext _ ?_ ?_ | refine Below.drew ?_ | refine Below.setCell ?_ ?_ _ | refine le_alloc ?_ | refine Ext.le_size _ ?_ | refine le_drew ?_ | refine le_setCell ?_))⟩, rfl⟩
        case measure => simp [intOf]; omega
      · have hF' : (F k y != 0) = true := by simp [hF]
        have HF := hid hF
        clear hF
        go_wp2_with (go_at_call 103; refine (hf.out k y _ (by with_reducible repeat' (first | exact Below.refl _ _ | exact Nat.le_refl _ | refine Below.alloc ?_ ?_ _ | refine below_ext _ ?_ ?_ | refine Below.drew ?_ | refine Below.setCell ?_ ?_ _ | refine le_alloc ?_ | refine Ext.le_size _ ?_ | refine le_drew ?_ | refine le_setCell ?_)) HY.out).go.mono ?_; rintro e w' ⟨rfl, x, rfl⟩)
        go_ret
        refine ⟨ret_int ?_, (by with_reducible repeat' (first | exact Below.refl _ _ | exact Nat.le_refl _ | refine Below.alloc ?_ ?_ _ | refine below_ext _ ?_ ?_ | refine Below.drew ?_ | refine Below.setCell ?_ ?_ _ | refine le_alloc ?_ | refine Ext.le_size _ ?_ | refine le_drew ?_ | refine le_setCell ?_))⟩
        have := firstE_some (F := F) (n := 0) (k := k) (y := y) (by simpa using HZ.out) HY.out (by simpa using HF.out)
        simp only [Nat.zero_add] at this
        exact this.symm
    · go_wp2_with fail
      go_ret
      refine ⟨ret_int ?_, (by with_reducible repeat' (first | exact Below.refl _ _ | exact Nat.le_refl _ | refine Below.alloc ?_ ?_ _ | refine below_ext _ ?_ ?_ | refine Below.drew ?_ | refine Below.setCell ?_ ?_ _ | refine le_alloc ?_ | refine Ext.le_size _ ?_ | refine le_drew ?_ | refine le_setCell ?_))⟩
      refine (firstE_none fun j z hz => ?_).symm
      rw [Nat.zero_add]
      exact HZ.out j z (by have := (List.getElem?_eq_some_iff.1 hz).1; omega) hz
set_option maxHeartbeats 1000000 in
set_option maxRecDepth 20000 in
theorem first_met (s : Sl Me) (F : Nat → Me → Int) (c0 : Value) (w : World) (hs : Hid (s.Ok eMe 11 w))
    (hf : Hid (∀ (k : Nat) (x : Me) (W : World), Below w.heap.size w W → s.xs[k]? = some x → Gives Tryz.prog 105 #[c0, .int .i64 k, x.v] W (.int .i64 (F k x)))) :
    Gives Tryz.prog 104 #[s.v, .func (.func 105) #[c0] #[]] w (.int .i64 (firstE F 0 s.xs)) := by
  obtain ⟨a, c, xs⟩ := s
  have hle := hs.out.le
  have hmx := hs.out.max
  simp only at hle hmx
  show Gives _ _ #[.slice a xs.length c, .func (.func 105) _ _] _ _
  unfold Gives
  go_enter Tryz.func104, Tryz.ntmps104
  go_wp2_with fail
  go_loopw [10] (fun i wr => ∃ k : Nat, k ≤ xs.length ∧ i = .int .i64 k ∧ (∀ (j : Nat) (x : Me), j < k → xs[j]? = some x → F j x = 0) ∧ ∃ x : Ext w, wr = x.val) (fun i _ => xs.length - (intOf i).toNat)
  case atStart => exact ⟨0, Nat.zero_le _, rfl, fun _ _ h => absurd h (by omega), ⟨w, Below.refl _ _⟩, rfl⟩
  case round =>
    obtain ⟨k, hk, rfl, hz, x, rfl⟩ := hrel
    have HZ := hid hz
    clear hz
    by_cases hlt : k < xs.length
    · obtain ⟨y, hy⟩ := getElem?_of_lt hlt
      obtain ⟨hok, b, off, hba, hbl, hc⟩ := hs.out.at_ k y hy
      simp only at hba
      subst hba
      have h0 := hc 0 _ rfl; have h1 := hc 1 _ rfl; have h2 := hc 2 _ rfl; have h3 := hc 3 _ rfl; have h4 := hc 4 _ rfl; have h5 := hc 5 _ rfl; have h6 := hc 6 _ rfl; have h7 := hc 7 _ rfl; have h8 := hc 8 _ rfl; have h9 := hc 9 _ rfl; have h10 := hc 10 _ rfl; simp only [Nat.add_zero] at h0
      haveI : InW b w := ⟨hbl⟩
      have HY := hid hy
      clear hc hok hy hbl
      have hk1 : (0 : Int) ≤ (k : Int) := by omega
      have hk2 : (k : Int) < (xs.length : Int) := by omega
      by_cases hF : F k y = 0
      · have hF' : (F k y != 0) = false := by simp [hF]
        have HF := hid hF
        clear hF
        go_wp2_with (go_at_call 105; refine (hf.out k y _ (by with_reducible repeat' (first | exact Below.refl _ _ | exact Nat.le_refl _ | refine Below.alloc ?_ ?_ _ | refine below_ext _ ?_ ?_ | refine Below.drew ?_ | refine Below.setCell ?_ ?_ _ | refine le_alloc ?_ | refine Ext.le_size _ ?_ | refine le_drew ?_ | refine le_setCell ?_)) HY.out).go.mono ?_; rintro e w' ⟨rfl, x, rfl⟩)
        go_roundw
        case rel => exact ⟨k + 1, by omega, by go_num, fun j z hj hzz => by
            rcases Nat.lt_succ_iff_lt_or_eq.1 hj with h | rfl
            · exact HZ.out j z h hzz
            · have := HY.out.symm.trans hzz; cases this; exact HF.out, ⟨_, (by with_reducible repeat' (first | exact Below.refl _ _ | exact Nat.le_refl _ | refine Below.alloc ?_ ?_ _ | refine below_ext _ ?_ ?_ | refine Below.drew ?_ | refine Below.setCell ?_ ?_ _ | refine le_alloc ?_ | refine Ext.le_size _ ?_ | refine le_drew ?_ | refine le_setCell ?_))⟩, rfl⟩
        case measure => simp [intOf]; omega
      · have hF' : (F k y != 0) = true := by simp [hF]
        have HF := hid hF
        clear hF
        go_wp2_with (go_at_call 105; refine (hf.out k y _ (by with_reducible repeat' (first | exact Below.refl _ _ | exact Nat.le_refl _ | refine Below.alloc ?_ ?_ _ | refine below_ext _ ?_ ?_ | refine Below.drew ?_ | refine Below.setCell ?_ ?_ _ | refine le_alloc ?_ | refine Ext.le_size _ ?_ | refine le_drew ?_ | refine le_setCell ?_)) HY.out).go.mono ?_; rintro e w' ⟨rfl, x, rfl⟩)
        go_ret
        refine ⟨ret_int ?_, (by with_reducible repeat' (first | exact Below.refl _ _ | exact Nat.le_refl _ | refine Below.alloc ?_ ?_ _ | refine below_ext _ ?_ ?_ | refine Below.drew ?_ | refine Below.setCell ?_ ?_ _ | refine le_alloc ?_ | refine Ext.le_size _ ?_ | refine le_drew ?_ | refine le_setCell ?_))⟩
        have := firstE_some (F := F) (n := 0) (k := k) (y := y) (by simpa using HZ.out) HY.out (by simpa using HF.out)
        simp only [Nat.zero_add] at this
        exact this.symm
    · go_wp2_with fail
      go_ret
      refine ⟨ret_int ?_, (by with_reducible repeat' (first | exact Below.refl _ _ | exact Nat.le_refl _ | refine Below.alloc ?_ ?_ _ | refine below_ext _ ?_ ?_ | refine Below.drew ?_ | refine Below.setCell ?_ ?_ _ | refine le_alloc ?_ | refine Ext.le_size _ ?_ | refine le_drew ?_ | refine le_setCell ?_))⟩
      refine (firstE_none fun j z hz => ?_).symm
      rw [Nat.zero_add]
      exact HZ.out j z (by have := (List.getElem?_eq_some_iff.1 hz).1; omega) hz
set_option maxRecDepth 20000 in
theorem first_app (s : Sl Ap) (F : Nat → Ap → Int) (c0 : Value) (w : World) (hs : Hid (s.Ok eAp 3 w))
    (hf : Hid (∀ (k : Nat) (x : Ap) (W : World), Below w.heap.size w W → s.xs[k]? = some x → Gives Tryz.prog 108 #[.int .i64 k, x.v, c0] W (.int .i64 (F k x)))) :
    Gives Tryz.prog 107 #[s.v, .func (.func 108) #[] #[c0]] w (.int .i64 (firstE F 0 s.xs)) := by
  obtain ⟨a, c, xs⟩ := s
  have hle := hs.out.le
  have hmx := hs.out.max
  simp only at hle hmx
  show Gives _ _ #[.slice a xs.length c, .func (.func 108) _ _] _ _
  unfold Gives
  go_enter Tryz.func107, Tryz.ntmps107
  go_wp2_with fail
  go_loopw [10] (fun i wr => ∃ k : Nat, k ≤ xs.length ∧ i = .int .i64 k ∧ (∀ (j : Nat) (x : Ap), j < k → xs[j]? = some x → F j x = 0) ∧ ∃ x : Ext w, wr = x.val) (fun i _ => xs.length - (intOf i).toNat)
  case atStart => exact ⟨0, Nat.zero_le _, rfl, fun _ _ h => absurd h (by omega), ⟨w, Below.refl _ _⟩, rfl⟩
  case round =>
    obtain ⟨k, hk, rfl, hz, x, rfl⟩ := hrel
    have HZ := hid hz
    clear hz
    by_cases hlt : k < xs.length
    · obtain ⟨y, hy⟩ := getElem?_of_lt hlt
      obtain ⟨hok, b, off, hba, hbl, hc⟩ := hs.out.at_ k y hy
      simp only at hba
      subst hba
      have h0 := hc 0 _ rfl; have h1 := hc 1 _ rfl; have h2 := hc 2 _ rfl; simp only [Nat.add_zero] at h0
      haveI : InW b w := ⟨hbl⟩
      have HY := hid hy
      clear hc hok hy hbl
      have hk1 : (0 : Int) ≤ (k : Int) := by omega
      have hk2 : (k : Int) < (xs.length : Int) := by omega
      by_cases hF : F k y = 0
      · have hF' : (F k y != 0) = false := by simp [hF]
        have HF := hid hF
        clear hF
        go_wp2_with (go_at_call 108; refine (hf.out k y _ (by with_reducible repeat' (first | exact Below.refl _ _ | exact Nat.le_refl _ | refine Below.alloc ?_ ?_ _ | refine below_ext _ ?_ ?_ | refine Below.drew ?_ | refine Below.setCell ?_ ?_ _ | refine le_alloc ?_ | refine Ext.le_size _ ?_ | refine le_drew ?_ | refine le_setCell ?_)) HY.out).go.mono ?_; rintro e w' ⟨rfl, x, rfl⟩)
        go_roundw
        case rel => exact ⟨k + 1, by omega, by go_num, fun j z hj hzz => by
            rcases Nat.lt_succ_iff_lt_or_eq.1 hj with h | rfl
            · exact HZ.out j z h hzz
            · have := HY.out.symm.trans hzz; cases this; exact HF.out, ⟨_, (by with_reducible repeat' (first | exact Below.refl _ _ | exact Nat.le_refl _ | refine Below.alloc ?_ ?_ _ | refine below_ext _ ?_ ?_ | refine Below.drew ?_ | refine Below.setCell ?_ ?_ _ | refine le_alloc ?_ | refine Ext.le_size _ ?_ | refine le_drew ?_ | refine le_setCell ?_))⟩, rfl⟩
        case measure => simp [intOf]; omega
      · have hF' : (F k y != 0) = true := by simp [hF]
        have HF := hid hF
        clear hF
        go_wp2_with (go_at_call 108; refine (hf.out k y _ (by with_reducible repeat' (first | exact Below.refl _ _ | exact Nat.le_refl _ | refine Below.alloc ?_ ?_ _ | refine below_ext _ ?_ ?_ | refine Below.drew ?_ | refine Below.setCell ?_ ?_ _ | refine le_alloc ?_ | refine Ext.le_size _ ?_ | refine le_drew ?_ | refine le_setCell ?_)) HY.out).go.mono ?_; rintro e w' ⟨rfl, x, rfl⟩)
        go_ret
        refine ⟨ret_int ?_, (by with_reducible repeat' (first | exact Below.refl _ _ | exact Nat.le_refl _ | refine Below.alloc ?_ ?_ _ | refine below_ext _ ?_ ?_ | refine Below.drew ?_ | refine Below.setCell ?_ ?_ _ | refine le_alloc ?_ | refine Ext.le_size _ ?_ | refine le_drew ?_ | refine le_setCell ?_))⟩
        have := firstE_some (F := F) (n := 0) (k := k) (y := y) (by simpa using HZ.out) HY.out (by simpa using HF.out)
        simp only [Nat.zero_add] at this
        exact this.symm
    · go_wp2_with fail
      go_ret
      refine ⟨ret_int ?_, (by with_reducible repeat' (first | exact Below.refl _ _ | exact Nat.le_refl _ | refine Below.alloc ?_ ?_ _ | refine below_ext _ ?_ ?_ | refine Below.drew ?_ | refine Below.setCell ?_ ?_ _ | refine le_alloc ?_ | refine Ext.le_size _ ?_ | refine le_drew ?_ | refine le_setCell ?_))⟩
      refine (firstE_none fun j z hz => ?_).symm
      rw [Nat.zero_add]
      exact HZ.out j z (by have := (List.getElem?_eq_some_iff.1 hz).1; omega) hz
end Go.Proofs.YthagkijplklemaaGreatDoor
end
