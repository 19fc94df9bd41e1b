/- Check of the program: a class, all classes. Check of the program: the lists of a package. Check of the program: the five steps of a package's lists. What reading a package's bytes comes to: instructions, methods, the whole. The reference's checks of an instruction; of references and types. The reference's checks: lists of types, imports. -/
import Derived.Test.YthagkijplklemaaGreatDoorS08
import Derived.Test.YthagkijplklemaaGreatDoorS01
import Derived.Test.YthagkijplklemaaGreatDoorS07
import Derived.BigGuardPart
import Derived.Test.YthagkijplklemaaGreatDoorS18
section
namespace Go.Proofs.YthagkijplklemaaGreatDoor
open Go.ChangeShapes Go.WideShapes Go.ChangeAt Go.RowKit Go.Sc
def clsE (p : Pk) (k : Int) (x : Cl) : Int :=
  if belowE p.imports.xs.length p.classes.xs.length x.super k = 0 then
    if (x.isI = true ∧ ((¬ x.super.p = 255 ∨ ¬ x.super.c = 0) ∨ 0 < x.fields.xs.length ∨ 0 < x.impls.xs.length)) ∨ (x.isI = false ∧ 0 < x.ext.xs.length) then 4
    else if 32 < x.ext.xs.length ∨ 16 < x.fields.xs.length ∨ 16 < x.virt.xs.length ∨ 32 < x.impls.xs.length then 3
    else if firstE (fun _ r => belowE p.imports.xs.length p.classes.xs.length r k) 0 x.ext.xs = 0 then
      if allUsable p x.fields.xs = true then
        if firstE (fun i m => virtE p k x i m) 0 x.virt.xs = 0 then firstE (implE p x) 0 x.impls.xs
        else firstE (fun i m => virtE p k x i m) 0 x.virt.xs
      else 22
    else firstE (fun _ r => belowE p.imports.xs.length p.classes.xs.length r k) 0 x.ext.xs
  else belowE p.imports.xs.length p.classes.xs.length x.super k
theorem class_any (p : Pk) (k : Int) (x : Cl) (w : World) (hp : Hid (p.Ok w)) (hx : Hid (x.Ok w)) (hg : Hid (ObjAt w 0)) :
    Gives Tryz.prog 103 #[p.v, .int .i64 k, x.v] w (.int .i64 (clsE p k x)) := by
  obtain ⟨hglt, g0, g1⟩ := hg.out
  haveI : InW 0 w := ⟨hglt⟩
  have hr : Hid (∀ W : World, PkAt W w.heap.size p → CellAt W (w.heap.size + 1) 0 (.int .i64 k) → x.ext.Ok eRf 2 W → Gives Tryz.prog 155 #[x.ext.v, .func (.func 156) #[] #[.pointer (some ⟨w.heap.size, 0, none⟩), .pointer (some ⟨w.heap.size + 1, 0, none⟩)]] W (.int .i64 (firstE (fun _ r => belowE p.imports.xs.length p.classes.xs.length r k) 0 x.ext.xs))) :=
    fun W h0 h1 h2 => first_ref x.ext (fun _ r => belowE p.imports.xs.length p.classes.xs.length r k) _ _ W h2 (fun j r W' hb hr => class1_any p j r k _ _ W' (h0.mono hb) (h1.mono hb))
  have hv : Hid (∀ W : World, p.Ok W → x.Ok W → PkAt W w.heap.size p → CellAt W (w.heap.size + 1) 0 (.int .i64 k) → ClAt W (w.heap.size + 2) x → Gives Tryz.prog 157 #[x.virt.v, .func (.func 158) #[] #[.pointer (some ⟨w.heap.size, 0, none⟩), .pointer (some ⟨w.heap.size + 1, 0, none⟩), .pointer (some ⟨w.heap.size + 2, 0, none⟩)]] W (.int .i64 (firstE (fun i m => virtE p k x i m) 0 x.virt.xs))) :=
    fun W hp hx h0 h1 h2 => first_int x.virt (fun i m => virtE p k x i m) _ _ _ W hx.virt (fun j m W' hb hm => class2_any p j m k x _ _ _ W' (hp.mono hb) (eCl.mono hb hx) (List.getElem?_eq_some_iff.1 hm).1 (h0.mono hb) (h1.mono hb) (h2.mono hb))
  have hi : Hid (∀ W : World, x.Ok W → PkAt W w.heap.size p → ClAt W (w.heap.size + 2) x → Gives Tryz.prog 160 #[x.impls.v, .func (.func 161) #[] #[.pointer (some ⟨w.heap.size, 0, none⟩), .pointer (some ⟨w.heap.size + 2, 0, none⟩)]] W (.int .i64 (firstE (implE p x) 0 x.impls.xs))) :=
    fun W hx h0 h2 => first_impl x.impls (implE p x) _ _ W hx.impls (fun j y W' hb hy => class3_any p j y x _ _ W' (eCl.mono hb hx) ((hx.impls.mono hb).at_ j y hy).1 (List.getElem?_eq_some_iff.1 hy).1 (h0.mono hb) (h2.mono hb))
  cases hI : x.isI
  all_goals
   have hbx := hid (boxPNC w p k x hI 67 3 49)
   unfold Gives
   go_enter Tryz.func103, Tryz.ntmps103
   go_wp2_with (first | (go_at_call 154; refine (below_any p x.super k _).go.mono ?_; rintro e w' ⟨rfl, xw, rfl⟩) | (go_at_call 155; refine (hr.out _ (hbx.out.1.mono END) (hbx.out.2.1.mono END) (hx.out.ext.mono END)).go.mono ?_; rintro e w' ⟨rfl, xw, rfl⟩) | (go_at_call 106; refine (allUsable_any p x.fields _ (hx.out.fields.mono END)).go.mono ?_; rintro e w' ⟨rfl, xw, rfl⟩) | (go_at_call 157; refine (hv.out _ (hp.out.mono END) (eCl.mono END hx.out) (hbx.out.1.mono END) (hbx.out.2.1.mono END) (hbx.out.2.2.mono END)).go.mono ?_; rintro e w' ⟨rfl, xw, rfl⟩) | (go_at_call 160; refine (hi.out _ (eCl.mono END hx.out) (hbx.out.1.mono END) (hbx.out.2.2.mono END)).go.mono ?_; rintro e w' ⟨rfl, xw, rfl⟩))
   all_goals
     go_ret
     exact ⟨ret_int (by unfold clsE; grind), END⟩
end Go.Proofs.YthagkijplklemaaGreatDoor
end

section
namespace Go.Proofs.YthagkijplklemaaGreatDoor
open Go.ChangeShapes Go.WideShapes Go.ChangeAt Go.RowKit Go.Sc
theorem method_any (p : Pk) (m : Me) (k : Int) (w : World) (hp : Hid (p.Ok w)) (hm : Hid (m.Ok w)) :
    Gives Tryz.prog 105 #[p.v, .int .i64 k, m.v] w (.int .i64 (metE p m)) := by
  cases hs : m.static with
  | true =>
    cases ha : m.abs with
    | true => exact method_tt p m k w hp hm hs ha
    | false => exact method_tf p m k w hp hm hs ha
  | false =>
    cases hb : below m.cls p.classes.xs.length with
    | false =>
      cases ha : m.abs with
      | true => exact method_fbt p m k w hp hm hs ha hb
      | false => exact method_fbf p m k w hp hm hs ha hb
    | true =>
      simp only [below, Bool.and_eq_true, decide_eq_true_eq] at hb
      obtain ⟨j, hj⟩ : ∃ j : Nat, m.cls = (j : Int) := ⟨m.cls.toNat, by omega⟩
      obtain ⟨c, hc⟩ := getElem?_of_lt (xs := p.classes.xs) (k := j) (by omega)
      cases ha : m.abs with
      | true =>
        cases hI : c.isI with
        | true => exact method_ftt p m k w j c hp hm hs ha hj hc hI
        | false => exact method_ftf p m k w j c hp hm hs ha hj hc hI
      | false =>
        cases hI : c.isI with
        | true => exact method_fft p m k w j c hp hm hs ha hj hc hI
        | false => exact method_fff p m k w j c hp hm hs ha hj hc hI
set_option maxRecDepth 20000 in
theorem first_imp (s : Sl Ip) (F : Nat → Ip → Int) (c0 : Value) (w : World) (hs : Hid (s.Ok eIp 3 w))
    (hf : Hid (∀ (k : Nat) (x : Ip) (W : World), Below w.heap.size w W → s.xs[k]? = some x → Gives Tryz.prog 99 #[.int .i64 k, x.v, c0] W (.int .i64 (F k x)))) :
    Gives Tryz.prog 98 #[s.v, .func (.func 99) #[] #[c0]] w (.int .i64 (firstE F 0 s.xs)) := by
  obtain ⟨a, c, xs⟩ := s
  have hle := hs.out.le
  have hmx := hs.out.max
  simp only at hle hmx
  show Gives _ _ #[.slice a xs.length c, .func (.func 99) _ _] _ _
  unfold Gives
  go_enter Tryz.func98, Tryz.ntmps98
  go_wp2_with fail
  go_loopw [10] (fun i wr => ∃ k : Nat, k ≤ xs.length ∧ i = .int .i64 k ∧ (∀ (j : Nat) (x : Ip), j < k → xs[j]? = some x → F j x = 0) ∧ ∃ x : Ext w, wr = x.val) (fun i _ => xs.length - (intOf i).toNat)
  case atStart => exact ⟨0, Nat.zero_le _, rfl, fun _ _ h => absurd h (by omega), ⟨w, Below.refl _ _⟩, rfl⟩
  case round =>
    obtain ⟨k, hk, rfl, hz, x, rfl⟩ := hrel
    have HZ := hid hz
    clear hz
    by_cases hlt : k < xs.length
    · obtain ⟨y, hy⟩ := getElem?_of_lt hlt
      obtain ⟨hok, b, off, hba, hbl, hc⟩ := hs.out.at_ k y hy
      simp only at hba
      subst hba
      have h0 := hc 0 _ rfl; have h1 := hc 1 _ rfl; have h2 := hc 2 _ rfl; simp only [Nat.add_zero] at h0
      haveI : InW b w := ⟨hbl⟩
      have HY := hid hy
      clear hc hok hy hbl
      have hk1 : (0 : Int) ≤ (k : Int) := by omega
      have hk2 : (k : Int) < (xs.length : Int) := by omega
      by_cases hF : F k y = 0
      · have hF' : (F k y != 0) = false := by simp [hF]
        have HF := hid hF
        clear hF
        go_wp2_with (go_at_call 99; refine (hf.out k y _ END HY.out).go.mono ?_; rintro e w' ⟨rfl, x, rfl⟩)
        go_roundw
        case rel => exact ⟨k + 1, by omega, by go_num, fun j z hj hzz => by
            rcases Nat.lt_succ_iff_lt_or_eq.1 hj with h | rfl
            · exact HZ.out j z h hzz
            · have := HY.out.symm.trans hzz; cases this; exact HF.out, ⟨_, END⟩, rfl⟩
        case measure => simp [intOf]; omega
      · have hF' : (F k y != 0) = true := by simp [hF]
        have HF := hid hF
        clear hF
        go_wp2_with (go_at_call 99; refine (hf.out k y _ END HY.out).go.mono ?_; rintro e w' ⟨rfl, x, rfl⟩)
        go_ret
        refine ⟨ret_int ?_, END⟩
        have := firstE_some (F := F) (n := 0) (k := k) (y := y) (by simpa using HZ.out) HY.out (by simpa using HF.out)
        simp only [Nat.zero_add] at this
        exact this.symm
    · go_wp2_with fail
      go_ret
      refine ⟨ret_int ?_, END⟩
      refine (firstE_none fun j z hz => ?_).symm
      rw [Nat.zero_add]
      exact HZ.out j z (by have := (List.getElem?_eq_some_iff.1 hz).1; omega) hz
set_option maxHeartbeats 1000000 in
set_option maxRecDepth 20000 in
theorem first_cls (s : Sl Cl) (F : Nat → Cl → Int) (c0 : Value) (w : World) (hs : Hid (s.Ok eCl 7 w))
    (hf : Hid (∀ (k : Nat) (x : Cl) (W : World), Below w.heap.size w W → s.xs[k]? = some x → Gives Tryz.prog 103 #[c0, .int .i64 k, x.v] W (.int .i64 (F k x)))) :
    Gives Tryz.prog 102 #[s.v, .func (.func 103) #[c0] #[]] w (.int .i64 (firstE F 0 s.xs)) := by
  obtain ⟨a, c, xs⟩ := s
  have hle := hs.out.le
  have hmx := hs.out.max
  simp only at hle hmx
  show Gives _ _ #[.slice a xs.length c, .func (.func 103) _ _] _ _
  unfold Gives
  go_enter Tryz.func102, Tryz.ntmps102
  go_wp2_with fail
  go_loopw [10] (fun i wr => ∃ k : Nat, k ≤ xs.length ∧ i = .int .i64 k ∧ (∀ (j : Nat) (x : Cl), j < k → xs[j]? = some x → F j x = 0) ∧ ∃ x : Ext w, wr = x.val) (fun i _ => xs.length - (intOf i).toNat)
  case atStart => exact ⟨0, Nat.zero_le _, rfl, fun _ _ h => absurd h (by omega), ⟨w, Below.refl _ _⟩, rfl⟩
  case round =>
    obtain ⟨k, hk, rfl, hz, x, rfl⟩ := hrel
    have HZ := hid hz
    clear hz
    by_cases hlt : k < xs.length
    · obtain ⟨y, hy⟩ := getElem?_of_lt hlt
      obtain ⟨hok, b, off, hba, hbl, hc⟩ := hs.out.at_ k y hy
      simp only at hba
      subst hba
      have h0 := hc 0 _ rfl; have h1 := hc 1 _ rfl; have h2 := hc 2 _ rfl; have h3 := hc 3 _ rfl; have h4 := hc 4 _ rfl; have h5 := hc 5 _ rfl; have h6 := hc 6 _ rfl; simp only [Nat.add_zero] at h0
      haveI : InW b w := ⟨hbl⟩
      have HY := hid hy
      clear hc hok hy hbl
      have hk1 : (0 : Int) ≤ (k : Int) := by omega
      have hk2 : (k : Int) < (xs.length : Int) := by omega
      by_cases hF : F k y = 0
      · have hF' : (F k y != 0) = false := by simp [hF]
        have HF := hid hF
        clear hF
        go_wp2_with (go_at_call 103; refine (hf.out k y _ END HY.out).go.mono ?_; rintro e w' ⟨rfl, x, rfl⟩)
        go_roundw
        case rel => exact ⟨k + 1, by omega, by go_num, fun j z hj hzz => by
            rcases Nat.lt_succ_iff_lt_or_eq.1 hj with h | rfl
            · exact HZ.out j z h hzz
            · have := HY.out.symm.trans hzz; cases this; exact HF.out, ⟨_, END⟩, rfl⟩
        case measure => simp [intOf]; omega
      · have hF' : (F k y != 0) = true := by simp [hF]
        have HF := hid hF
        clear hF
        go_wp2_with (go_at_call 103; refine (hf.out k y _ END HY.out).go.mono ?_; rintro e w' ⟨rfl, x, rfl⟩)
        go_ret
        refine ⟨ret_int ?_, END⟩
        have := firstE_some (F := F) (n := 0) (k := k) (y := y) (by simpa using HZ.out) HY.out (by simpa using HF.out)
        simp only [Nat.zero_add] at this
        exact this.symm
    · go_wp2_with fail
      go_ret
      refine ⟨ret_int ?_, END⟩
      refine (firstE_none fun j z hz => ?_).symm
      rw [Nat.zero_add]
      exact HZ.out j z (by have := (List.getElem?_eq_some_iff.1 hz).1; omega) hz
set_option maxHeartbeats 1000000 in
set_option maxRecDepth 20000 in
theorem first_met (s : Sl Me) (F : Nat → Me → Int) (c0 : Value) (w : World) (hs : Hid (s.Ok eMe 11 w))
    (hf : Hid (∀ (k : Nat) (x : Me) (W : World), Below w.heap.size w W → s.xs[k]? = some x → Gives Tryz.prog 105 #[c0, .int .i64 k, x.v] W (.int .i64 (F k x)))) :
    Gives Tryz.prog 104 #[s.v, .func (.func 105) #[c0] #[]] w (.int .i64 (firstE F 0 s.xs)) := by
  obtain ⟨a, c, xs⟩ := s
  have hle := hs.out.le
  have hmx := hs.out.max
  simp only at hle hmx
  show Gives _ _ #[.slice a xs.length c, .func (.func 105) _ _] _ _
  unfold Gives
  go_enter Tryz.func104, Tryz.ntmps104
  go_wp2_with fail
  go_loopw [10] (fun i wr => ∃ k : Nat, k ≤ xs.length ∧ i = .int .i64 k ∧ (∀ (j : Nat) (x : Me), j < k → xs[j]? = some x → F j x = 0) ∧ ∃ x : Ext w, wr = x.val) (fun i _ => xs.length - (intOf i).toNat)
  case atStart => exact ⟨0, Nat.zero_le _, rfl, fun _ _ h => absurd h (by omega), ⟨w, Below.refl _ _⟩, rfl⟩
  case round =>
    obtain ⟨k, hk, rfl, hz, x, rfl⟩ := hrel
    have HZ := hid hz
    clear hz
    by_cases hlt : k < xs.length
    · obtain ⟨y, hy⟩ := getElem?_of_lt hlt
      obtain ⟨hok, b, off, hba, hbl, hc⟩ := hs.out.at_ k y hy
      simp only at hba
      subst hba
      have h0 := hc 0 _ rfl; have h1 := hc 1 _ rfl; have h2 := hc 2 _ rfl; have h3 := hc 3 _ rfl; have h4 := hc 4 _ rfl; have h5 := hc 5 _ rfl; have h6 := hc 6 _ rfl; have h7 := hc 7 _ rfl; have h8 := hc 8 _ rfl; have h9 := hc 9 _ rfl; have h10 := hc 10 _ rfl; simp only [Nat.add_zero] at h0
      haveI : InW b w := ⟨hbl⟩
      have HY := hid hy
      clear hc hok hy hbl
      have hk1 : (0 : Int) ≤ (k : Int) := by omega
      have hk2 : (k : Int) < (xs.length : Int) := by omega
      by_cases hF : F k y = 0
      · have hF' : (F k y != 0) = false := by simp [hF]
        have HF := hid hF
        clear hF
        go_wp2_with (go_at_call 105; refine (hf.out k y _ END HY.out).go.mono ?_; rintro e w' ⟨rfl, x, rfl⟩)
        go_roundw
        case rel => exact ⟨k + 1, by omega, by go_num, fun j z hj hzz => by
            rcases Nat.lt_succ_iff_lt_or_eq.1 hj with h | rfl
            · exact HZ.out j z h hzz
            · have := HY.out.symm.trans hzz; cases this; exact HF.out, ⟨_, END⟩, rfl⟩
        case measure => simp [intOf]; omega
      · have hF' : (F k y != 0) = true := by simp [hF]
        have HF := hid hF
        clear hF
        go_wp2_with (go_at_call 105; refine (hf.out k y _ END HY.out).go.mono ?_; rintro e w' ⟨rfl, x, rfl⟩)
        go_ret
        refine ⟨ret_int ?_, END⟩
        have := firstE_some (F := F) (n := 0) (k := k) (y := y) (by simpa using HZ.out) HY.out (by simpa using HF.out)
        simp only [Nat.zero_add] at this
        exact this.symm
    · go_wp2_with fail
      go_ret
      refine ⟨ret_int ?_, END⟩
      refine (firstE_none fun j z hz => ?_).symm
      rw [Nat.zero_add]
      exact HZ.out j z (by have := (List.getElem?_eq_some_iff.1 hz).1; omega) hz
set_option maxRecDepth 20000 in
theorem first_app (s : Sl Ap) (F : Nat → Ap → Int) (c0 : Value) (w : World) (hs : Hid (s.Ok eAp 3 w))
    (hf : Hid (∀ (k : Nat) (x : Ap) (W : World), Below w.heap.size w W → s.xs[k]? = some x → Gives Tryz.prog 108 #[.int .i64 k, x.v, c0] W (.int .i64 (F k x)))) :
    Gives Tryz.prog 107 #[s.v, .func (.func 108) #[] #[c0]] w (.int .i64 (firstE F 0 s.xs)) := by
  obtain ⟨a, c, xs⟩ := s
  have hle := hs.out.le
  have hmx := hs.out.max
  simp only at hle hmx
  show Gives _ _ #[.slice a xs.length c, .func (.func 108) _ _] _ _
  unfold Gives
  go_enter Tryz.func107, Tryz.ntmps107
  go_wp2_with fail
  go_loopw [10] (fun i wr => ∃ k : Nat, k ≤ xs.length ∧ i = .int .i64 k ∧ (∀ (j : Nat) (x : Ap), j < k → xs[j]? = some x → F j x = 0) ∧ ∃ x : Ext w, wr = x.val) (fun i _ => xs.length - (intOf i).toNat)
  case atStart => exact ⟨0, Nat.zero_le _, rfl, fun _ _ h => absurd h (by omega), ⟨w, Below.refl _ _⟩, rfl⟩
  case round =>
    obtain ⟨k, hk, rfl, hz, x, rfl⟩ := hrel
    have HZ := hid hz
    clear hz
    by_cases hlt : k < xs.length
    · obtain ⟨y, hy⟩ := getElem?_of_lt hlt
      obtain ⟨hok, b, off, hba, hbl, hc⟩ := hs.out.at_ k y hy
      simp only at hba
      subst hba
      have h0 := hc 0 _ rfl; have h1 := hc 1 _ rfl; have h2 := hc 2 _ rfl; simp only [Nat.add_zero] at h0
      haveI : InW b w := ⟨hbl⟩
      have HY := hid hy
      clear hc hok hy hbl
      have hk1 : (0 : Int) ≤ (k : Int) := by omega
      have hk2 : (k : Int) < (xs.length : Int) := by omega
      by_cases hF : F k y = 0
      · have hF' : (F k y != 0) = false := by simp [hF]
        have HF := hid hF
        clear hF
        go_wp2_with (go_at_call 108; refine (hf.out k y _ END HY.out).go.mono ?_; rintro e w' ⟨rfl, x, rfl⟩)
        go_roundw
        case rel => exact ⟨k + 1, by omega, by go_num, fun j z hj hzz => by
            rcases Nat.lt_succ_iff_lt_or_eq.1 hj with h | rfl
            · exact HZ.out j z h hzz
            · have := HY.out.symm.trans hzz; cases this; exact HF.out, ⟨_, END⟩, rfl⟩
        case measure => simp [intOf]; omega
      · have hF' : (F k y != 0) = true := by simp [hF]
        have HF := hid hF
        clear hF
        go_wp2_with (go_at_call 108; refine (hf.out k y _ END HY.out).go.mono ?_; rintro e w' ⟨rfl, x, rfl⟩)
        go_ret
        refine ⟨ret_int ?_, END⟩
        have := firstE_some (F := F) (n := 0) (k := k) (y := y) (by simpa using HZ.out) HY.out (by simpa using HF.out)
        simp only [Nat.zero_add] at this
        exact this.symm
    · go_wp2_with fail
      go_ret
      refine ⟨ret_int ?_, END⟩
      refine (firstE_none fun j z hz => ?_).symm
      rw [Nat.zero_add]
      exact HZ.out j z (by have := (List.getElem?_eq_some_iff.1 hz).1; omega) hz
end Go.Proofs.YthagkijplklemaaGreatDoor
end

section
namespace Go.Proofs.YthagkijplklemaaGreatDoor
open Go.ChangeShapes Go.WideShapes Go.ChangeAt Go.RowKit Go.Sc
theorem applets1_any (p : Pk) (k : Nat) (x : Ap) (cb : Nat) (w : World) (hp : Hid (p.Ok w)) (hx : Hid (x.Ok w)) (hc : Hid (PkAt w cb p)) (hg : Hid (ObjAt w 0)) (hk : k < p.applets.xs.length) :
    Gives Tryz.prog 108 #[.int .i64 k, x.v, .pointer (some ⟨cb, 0, none⟩)] w (.int .i64 (appE p k x)) := by
  cases hb1 : below x.cls p.classes.xs.length with
  | false => exact applets1_bad p k x cb w hp hx hc hk (.inl hb1)
  | true =>
    cases hb2 : below x.inst p.methods.xs.length with
    | false => exact applets1_bad p k x cb w hp hx hc hk (.inr hb2)
    | true =>
      simp only [below, Bool.and_eq_true, decide_eq_true_eq] at hb1 hb2
      obtain ⟨j, hj⟩ : ∃ j : Nat, x.cls = (j : Int) := ⟨x.cls.toNat, by omega⟩
      obtain ⟨l, hl⟩ : ∃ j : Nat, x.inst = (j : Int) := ⟨x.inst.toNat, by omega⟩
      obtain ⟨c, hcc⟩ := getElem?_of_lt (xs := p.classes.xs) (k := j) (by omega)
      obtain ⟨m, hm⟩ := getElem?_of_lt (xs := p.methods.xs) (k := l) (by omega)
      cases hI : c.isI with
      | true =>
        cases hS : m.static with
        | true => exact applets1_good p k x cb w hp hx hc hg hk j l c m hj hl hcc hm hI hS
        | false => exact applets1_good p k x cb w hp hx hc hg hk j l c m hj hl hcc hm hI hS
      | false =>
        cases hS : m.static with
        | true => exact applets1_good p k x cb w hp hx hc hg hk j l c m hj hl hcc hm hI hS
        | false => exact applets1_good p k x cb w hp hx hc hg hk j l c m hj hl hcc hm hI hS
theorem pk_new (w : World) (p : Pk) (t : TypeId) : PkAt (w.alloc (.cells (pkCells p p.classes.a) t)) w.heap.size p := PkAt.new w p t
theorem imp_first (p : Pk) (cb : Nat) : Hid (∀ W : World, p.Ok W → PkAt W cb p → Gives Tryz.prog 98 #[p.imports.v, .func (.func 99) #[] #[.pointer (some ⟨cb, 0, none⟩)]] W (.int .i64 (firstE (fun k x => impE p k x) 0 p.imports.xs))) :=
  fun W h0 h1 => first_imp p.imports (fun k x => impE p k x) _ W h0.imports (fun k x W' hb hx => imports1_any p k x _ W' (h0.mono hb) ((h0.imports.mono hb).at_ k x hx).1 (h1.mono hb) (List.getElem?_eq_some_iff.1 hx).1)
theorem cls_first (p : Pk) : Hid (∀ W : World, p.Ok W → ObjAt W 0 → Gives Tryz.prog 102 #[p.classes.v, .func (.func 103) #[p.v] #[]] W (.int .i64 (firstE (fun k x => clsE p k x) 0 p.classes.xs))) :=
  fun W h0 h1 => first_cls p.classes (fun k x => clsE p k x) _ W h0.classes (fun k x W' hb hx => class_any p k x W' (h0.mono hb) ((h0.classes.mono hb).at_ k x hx).1 (h1.mono hb))
theorem met_first (p : Pk) : Hid (∀ W : World, p.Ok W → Gives Tryz.prog 104 #[p.methods.v, .func (.func 105) #[p.v] #[]] W (.int .i64 (firstE (fun _ x => metE p x) 0 p.methods.xs))) :=
  fun W h0 => first_met p.methods (fun _ x => metE p x) _ W h0.methods (fun k x W' hb hx => method_any p x k W' (h0.mono hb) ((h0.methods.mono hb).at_ k x hx).1)
theorem app_first (p : Pk) (cb : Nat) : Hid (∀ W : World, p.Ok W → PkAt W cb p → ObjAt W 0 → Gives Tryz.prog 107 #[p.applets.v, .func (.func 108) #[] #[.pointer (some ⟨cb, 0, none⟩)]] W (.int .i64 (firstE (fun k x => appE p k x) 0 p.applets.xs))) :=
  fun W h0 h1 h2 => first_app p.applets (fun k x => appE p k x) _ W h0.applets (fun k x W' hb hx => applets1_any p k x _ W' (h0.mono hb) ((h0.applets.mono hb).at_ k x hx).1 (h1.mono hb) (h2.mono hb) (List.getElem?_eq_some_iff.1 hx).1)
theorem imports_any (p : Pk) (w : World) (hp : Hid (p.Ok w)) : Gives Tryz.prog 56 #[p.v] w (.int .i64 (firstE (fun k x => impE p k x) 0 p.imports.xs)) := by
  have hi := imp_first p w.heap.size
  have hn := hid (pk_new w p 67)
  unfold Gives
  go_enter Tryz.func56, Tryz.ntmps56
  go_wp2_with ((go_at_call 98; refine (hi.out _ (hp.out.mono END) (hn.out.mono END)).go.mono ?_; rintro e w' ⟨rfl, xw, rfl⟩))
  go_ret
  exact ⟨rfl, END⟩
theorem classes_any (p : Pk) (w : World) (hp : Hid (p.Ok w)) (hg : Hid (ObjAt w 0)) : Gives Tryz.prog 57 #[p.v] w (.int .i64 (firstE (fun k x => clsE p k x) 0 p.classes.xs)) := by
  have hi := cls_first p
  unfold Gives
  go_enter Tryz.func57, Tryz.ntmps57
  go_wp2_with ((go_at_call 102; refine (hi.out _ (hp.out.mono END) (hg.out.mono END)).go.mono ?_; rintro e w' ⟨rfl, xw, rfl⟩))
  go_ret
  exact ⟨rfl, END⟩
theorem methods_any (p : Pk) (w : World) (hp : Hid (p.Ok w)) : Gives Tryz.prog 58 #[p.v] w (.int .i64 (firstE (fun _ x => metE p x) 0 p.methods.xs)) := by
  have hi := met_first p
  unfold Gives
  go_enter Tryz.func58, Tryz.ntmps58
  go_wp2_with ((go_at_call 104; refine (hi.out _ (hp.out.mono END)).go.mono ?_; rintro e w' ⟨rfl, xw, rfl⟩))
  go_ret
  exact ⟨rfl, END⟩
theorem statics_any (p : Pk) (w : World) (hp : Hid (p.Ok w)) : Gives Tryz.prog 59 #[p.v] w (.int .i64 (if allUsable p p.statics.xs = true then 0 else 22)) := by
  unfold Gives
  go_enter Tryz.func59, Tryz.ntmps59
  go_wp2_with ((go_at_call 106; refine (allUsable_any p p.statics _ (hp.out.statics.mono END)).go.mono ?_; rintro e w' ⟨rfl, xw, rfl⟩))
  all_goals
    go_ret
    exact ⟨ret_int (by grind), END⟩
theorem applets_any (p : Pk) (w : World) (hp : Hid (p.Ok w)) (hg : Hid (ObjAt w 0)) : Gives Tryz.prog 60 #[p.v] w (.int .i64 (firstE (fun k x => appE p k x) 0 p.applets.xs)) := by
  have hi := app_first p w.heap.size
  have hn := hid (pk_new w p 67)
  unfold Gives
  go_enter Tryz.func60, Tryz.ntmps60
  go_wp2_with ((go_at_call 107; refine (hi.out _ (hp.out.mono END) (hn.out.mono END) (hg.out.mono END)).go.mono ?_; rintro e w' ⟨rfl, xw, rfl⟩))
  go_ret
  exact ⟨rfl, END⟩
end Go.Proofs.YthagkijplklemaaGreatDoor
end

section
namespace Go.Proofs.YthagkijplklemaaGreatDoor
open Go.RowKit Go.Sc
/-- A number of n bits in two's complement. -/
def sgn (m x : Int) : Int := if m ≤ 2 * x then x - m else x
def opP (f : Int) : Rr Int := fun b =>
  if f = 0 then .ok (0, b)
  else if f = 1 then (match b with | x :: y :: z :: u :: r => .ok (sgn 4294967296 (x * 16777216 + y * 65536 + z * 256 + u), r) | _ => .error 5)
  else match b with | x :: r => .ok (if f = 3 then sgn 256 x else x, r) | [] => .error 5
def insP : Rr In := numP.bind fun o => if 54 ≤ o then Rr.fail 4 else (opP (frm o).1).bind fun a => (opP (frm o).2.1).bind fun b => (opP (frm o).2.2).bind fun c => if insE ⟨o, a, b, c⟩ = 0 then Rr.pure ⟨o, a, b, c⟩ else Rr.fail (insE ⟨o, a, b, c⟩)
def decP : Nat → Nat → List Int → Except Int (List In)
  | 0, _, _ => .ok []
  | m + 1, n, b => if b = [] then .ok [] else if n = 256 then .error 3 else match insP b with
    | .ok (i, r) => (match decP m (n + 1) r with | .ok l => .ok (i :: l) | .error e => .error e)
    | .error e => .error e
def codeP : Rr (List In) := wideP.bind fun n => (bytesP n.toNat).bind fun b r => match decP (b.length + 1) 0 b with | .ok l => .ok (l, r) | .error e => .error e
def meP : Rr Me := numP.bind fun n => if 3 < n then Rr.fail 4 else numP.bind fun c => (listP typP).bind fun ps => typP.bind fun t => numP.bind fun l => numP.bind fun s => codeP.bind fun k => (listP hdP).bind fun h =>
  Rr.pure ⟨n % 2 == 1, decide (2 ≤ n), c, .er ps, t, l, s, .er k, .er h⟩
def magicP : Rr Unit := numP.bind fun x => if x = 83 then numP.bind fun y => if y = 67 then numP.bind fun z => if z = 49 then Rr.pure () else Rr.fail 4 else Rr.fail 4 else Rr.fail 4
def endP : Rr Unit := fun b => if b = [] then .ok ((), b) else .error 4
def pkP : Rr Pk := magicP.bind fun _ => aidP.bind fun a => numP.bind fun x => numP.bind fun y => (listP ipP).bind fun i => (listP clP).bind fun c => (listP meP).bind fun m => (listP typP).bind fun s => (listP apP).bind fun p =>
  endP.bind fun _ => Rr.pure ⟨.er a, x, y, .er i, .er c, .er m, .er s, .er p⟩
end Go.Proofs.YthagkijplklemaaGreatDoor
end

section
namespace Go.Proofs.YthagkijplklemaaGreatDoor
open Go.ChangeShapes Go.WideShapes Go.ChangeAt Go.RowKit Go.Sc
def formsV (op : Int) : Value := .tuple #[.int .i64 (frm op).1, .int .i64 (frm op).2.1, .int .i64 (frm op).2.2]
theorem formsV_ret {op a b c : Int} (h : frm op = (a, b, c)) : Ending.returned (.tuple #[.int .i64 a, .int .i64 b, .int .i64 c]) = .returned (formsV op) := by unfold formsV; rw [h]
set_option maxHeartbeats 1000000 in
theorem forms_hid (op : Int) (w : World) : Gives Tryz.prog 176 #[.int .i64 op] w (formsV op) := by
  unfold Gives
  go_enter Tryz.func176, Tryz.ntmps176
  go_wp2
  all_goals first
    | (exfalso; omega)
    | (go_returns; exact ⟨formsV_ret (by unfold frm; grind), END⟩)
theorem forms_any (op : Int) (w : World) : Gives Tryz.prog 176 #[.int .i64 op] w (.tuple #[.int .i64 (frm op).1, .int .i64 (frm op).2.1, .int .i64 (frm op).2.2]) := forms_hid op w
set_option maxHeartbeats 1000000 in
theorem rlimits_hid (f g : Int) (w : World) (h5 : ¬ f = 5) : Gives Tryz.prog 215 #[.int .i64 f, .int .i64 g] w (limV f g) := by
  unfold Gives
  go_enter Tryz.func215, Tryz.ntmps215
  go_wp2
  all_goals first
    | (exfalso; omega)
    | (go_returns
       exact ⟨limV_ret (by unfold lim; grind), END⟩)
theorem rlimits_any (f g : Int) (w : World) (h5 : ¬ f = 5) : Gives Tryz.prog 215 #[.int .i64 f, .int .i64 g] w (.tuple #[.int .i64 (lim f g).1, .int .i64 (lim f g).2]) := rlimits_hid f g w h5
set_option maxHeartbeats 1000000 in
theorem roperand_any (f n g : Int) (w : World) : Gives Tryz.prog 177 #[.int .i64 f, .int .i64 n, .int .i64 g] w (.int .i64 (opE f n g)) := by
  obtain ⟨L, hL⟩ : ∃ L, L = (lim f g).1 := ⟨_, rfl⟩
  obtain ⟨M, hM⟩ : ∃ L, L = (lim f g).2 := ⟨_, rfl⟩
  have h5 : Hid (f = 5 → L = 0 ∧ M = 4) := by
    have : f = 5 → L = 0 ∧ M = 4 := by rintro rfl; rw [hL, hM]; exact ⟨rfl, rfl⟩
    exact this
  have hE : Hid (opE f n g = if f = 0 then (if n = 0 then 0 else 4) else if (n < L ∨ M < n) ∧ ¬ (f = 5 ∧ n = 255) then 2 else 0) := by
    have : opE f n g = if f = 0 then (if n = 0 then 0 else 4) else if (n < L ∨ M < n) ∧ ¬ (f = 5 ∧ n = 255) then 2 else 0 := by rw [hL, hM]; rfl
    exact this
  have hC : Hid (∀ W : World, ¬ f = 5 → Gives Tryz.prog 215 #[.int .i64 f, .int .i64 g] W (.tuple #[.int .i64 L, .int .i64 M])) := fun W h => by rw [hL, hM]; exact rlimits_any f g W h
  clear hL hM
  by_cases hf : f = 5
  · obtain ⟨rfl, rfl⟩ := h5.out hf
    subst hf
    unfold Gives
    go_enter Tryz.func177, Tryz.ntmps177
    go_wp2_with fail
    all_goals first
      | (exfalso; omega)
      | (go_ret; exact ⟨ret_int (by rw [hE.out]; grind), END⟩)
  · unfold Gives
    go_enter Tryz.func177, Tryz.ntmps177
    go_wp2_with (first | (go_at_call 215; refine (hC.out _ hf).go.mono ?_; rintro e w' ⟨rfl, xw, rfl⟩) | fail)
    all_goals first
      | (exfalso; omega)
      | (go_ret; exact ⟨ret_int (by rw [hE.out]; grind), END⟩)
set_option maxHeartbeats 1000000 in
theorem rcheck27_any (i : In) (w : World) : Gives Tryz.prog 113 #[i.v] w (.int .i64 (insE i)) := by
  obtain ⟨A, hA⟩ : ∃ A, A = (frm i.op).1 := ⟨_, rfl⟩
  obtain ⟨B, hB⟩ : ∃ A, A = (frm i.op).2.1 := ⟨_, rfl⟩
  obtain ⟨C, hC⟩ : ∃ A, A = (frm i.op).2.2 := ⟨_, rfl⟩
  have hA6 : A ≠ 6 := by
    rw [hA]
    unfold frm
    repeat' split
    all_goals simp
  have h0 : opE A i.a 0 = opE A i.a i.a := by
    unfold opE lim
    simp only [hA6, if_false]
  obtain ⟨e1, h1⟩ : ∃ e, e = opE A i.a i.a := ⟨_, rfl⟩
  obtain ⟨e2, h2⟩ : ∃ e, e = opE B i.b i.a := ⟨_, rfl⟩
  obtain ⟨e3, h3⟩ : ∃ e, e = opE C i.c i.a := ⟨_, rfl⟩
  have hF : Hid (∀ W : World, Gives Tryz.prog 176 #[.int .i64 i.op] W (.tuple #[.int .i64 A, .int .i64 B, .int .i64 C])) := fun W => by rw [hA, hB, hC]; exact forms_any i.op W
  have hE : Hid (insE i = if i.op < 0 ∨ 54 ≤ i.op then 4 else if e1 = 0 then (if e2 = 0 then e3 else e2) else e1) := by
    have : insE i = if i.op < 0 ∨ 54 ≤ i.op then 4 else if e1 = 0 then (if e2 = 0 then e3 else e2) else e1 := by
      unfold insE
      rw [← hA, ← hB, ← hC, ← h1, ← h2, ← h3]
    exact this
  have g1 : Hid (∀ W : World, Gives Tryz.prog 177 #[.int .i64 A, .int .i64 i.a, .int .i64 0] W (.int .i64 e1)) := fun W => by rw [h1, ← h0]; exact roperand_any A i.a 0 W
  have g2 : Hid (∀ W : World, Gives Tryz.prog 177 #[.int .i64 B, .int .i64 i.b, .int .i64 i.a] W (.int .i64 e2)) := fun W => by rw [h2]; exact roperand_any B i.b i.a W
  have g3 : Hid (∀ W : World, Gives Tryz.prog 177 #[.int .i64 C, .int .i64 i.c, .int .i64 i.a] W (.int .i64 e3)) := fun W => by rw [h3]; exact roperand_any C i.c i.a W
  clear hA hB hC hA6 h0 h1 h2 h3
  unfold Gives
  go_enter Tryz.func113, Tryz.ntmps113
  go_wp2_with (first | (go_at_call 176; refine (hF.out _).go.mono ?_; rintro e w' ⟨rfl, xw, rfl⟩) | (go_at_call 177; first | ((with_reducible refine (g1.out _).go.mono ?_); rintro e w' ⟨rfl, xw, rfl⟩) | ((with_reducible refine (g2.out _).go.mono ?_); rintro e w' ⟨rfl, xw, rfl⟩) | ((with_reducible refine (g3.out _).go.mono ?_); rintro e w' ⟨rfl, xw, rfl⟩)) | fail)
  all_goals first
    | (exfalso; omega)
    | (go_ret; exact ⟨ret_int (by rw [hE.out]; grind), END⟩)
theorem gen_v {P : Program} {c : Code} {Q : Exit → Act → World → Prop} {a : Act} {w : World} (p : World → Prop) (hp : p w) (h : ∀ V, p V → c.wp P Q a V) : c.wp P Q a w := h w hp
theorem fe_some {α : Type} {F : Nat → α → Int} {xs : List α} {k : Nat} {y : α} {c : Int} (hz : ∀ (j : Nat) (x : α), j < k → xs[j]? = some x → F j x = 0) (hy : xs[k]? = some y) (h : F k y = c) (hc : c ≠ 0) : c = firstE F 0 xs := by
  have := firstE_some (F := F) (n := 0) (k := k) (y := y) (by simpa using hz) hy (by rw [Nat.zero_add, h]; exact hc)
  rw [Nat.zero_add, h] at this
  exact this.symm
theorem fe_none {α : Type} {F : Nat → α → Int} {xs : List α} (hz : ∀ (j : Nat) (x : α), xs[j]? = some x → F j x = 0) : 0 = firstE F 0 xs :=
  (firstE_none (by simpa using hz)).symm
theorem any_take_hit {α : Type} {f : α → Bool} {xs : List α} {k j : Nat} {y : α} (hj : j < k) (hy : xs[j]? = some y) (h : f y = true) : (xs.take k).any f = true := by
  rw [List.any_eq_true]
  refine ⟨y, List.mem_of_getElem? (i := j) (by rw [List.getElem?_take, if_pos hj]; exact hy), h⟩
theorem any_take_miss {α : Type} {f : α → Bool} {xs : List α} {k : Nat} (h : ∀ (j : Nat) (y : α), j < k → xs[j]? = some y → f y = false) : (xs.take k).any f = false := by
  rw [List.any_eq_false]
  intro y hy
  obtain ⟨j, hj⟩ := List.getElem?_of_mem hy
  rw [List.getElem?_take] at hj
  split at hj
  · rename_i h1
    rw [h j y h1 hj]; simp
  · cases hj
theorem all_hit {α : Type} {f : α → Bool} {xs : List α} {k : Nat} {y : α} (hy : xs[k]? = some y) (h : f y = false) : false = xs.all f := by
  symm
  rw [List.all_eq_false]
  exact ⟨y, List.mem_of_getElem? hy, by simp [h]⟩
theorem all_end {α : Type} {f : α → Bool} {xs : List α} (h : ∀ (j : Nat) (y : α), xs[j]? = some y → f y = true) : true = xs.all f := by
  symm
  rw [List.all_eq_true]
  intro y hy
  obtain ⟨j, hj⟩ := List.getElem?_of_mem hy
  exact h j y hj
theorem earlier_any (r : Rf) (n : Int) (w : World) : Gives Tryz.prog 62 #[r.v, .int .i64 n] w (.bool (!decide (r.p = 0) || decide (r.c < n))) := by
  unfold Gives
  go_enter Tryz.func62, Tryz.ntmps62
  go_wp2_with fail
  all_goals
    go_ret
    exact ⟨ret_bool (by grind), END⟩
theorem rargs_any (m : Me) (w : World) (hl : m.params.xs.length ≤ 9223372036854775806) : Gives Tryz.prog 112 #[m.v] w (.int .i64 ((m.params.xs.length : Int) + (bif m.static then 0 else 1))) := by
  obtain ⟨s, ab, c, ⟨pa, pc, ps⟩, r, l, k, co, hs⟩ := m
  simp only at hl
  show Gives _ _ #[.agg #[.bool s, .bool ab, .int .i64 c, .slice pa ps.length pc, .int .i64 r.k, .int .i64 r.c.p, .int .i64 r.c.c, .int .i64 l, .int .i64 k, .slice co.a co.xs.length co.c, .slice hs.a hs.xs.length hs.c]] _ _
  unfold Gives
  have h1 : (ps.length : Int) ≤ 9223372036854775806 := by omega
  cases s
  all_goals
    go_enter Tryz.func112, Tryz.ntmps112
    go_wp2_with fail
    go_ret
    exact ⟨ret_int (by simp), END⟩
theorem frm46 (op : Int) (h : op = 46) : frm op = (10, 11, 0) := by subst h; rfl
theorem insE_46 {i : In} (h : insE i = 0) (ho : i.op = 46) : 0 ≤ i.b ∧ i.b < 64 := by
  unfold insE at h
  rw [frm46 _ ho] at h
  rw [if_neg (by omega)] at h
  simp only at h
  split at h
  · split at h
    · rename_i h1 h2
      simp only [opE, lim] at h2
      simp at h2
      omega
    · omega
  · omega
set_option maxHeartbeats 2000000 in
theorem rexists_any (p : Pk) (m : Me) (i : In) (w : World) (hi : insE i = 0) : Gives Tryz.prog 114 #[p.v, m.v, i.v] w (.bool (named p m.code.xs.length i)) := by
  have h46 := hid (insE_46 hi)
  obtain ⟨o, a, b, c⟩ := i
  simp only at h46
  obtain ⟨B, hB⟩ : ∃ B, B = named p m.code.xs.length ⟨o, a, b, c⟩ := ⟨_, rfl⟩
  obtain ⟨r1, h1⟩ : ∃ r, r = inRange p.imports.xs.length p.classes.xs.length ⟨a, b⟩ := ⟨_, rfl⟩
  obtain ⟨r2, h2⟩ : ∃ r, r = below a p.statics.xs.length := ⟨_, rfl⟩
  obtain ⟨r3, h3⟩ : ∃ r, r = below b p.methods.xs.length := ⟨_, rfl⟩
  obtain ⟨r4, h4⟩ : ∃ r, r = below b 64 := ⟨_, rfl⟩
  obtain ⟨r5, h5⟩ : ∃ r, r = below a m.code.xs.length := ⟨_, rfl⟩
  have h64 : Hid (o = 46 → r4 = true) := by
    have : o = 46 → r4 = true := fun h => by rw [h4]; unfold below; have := h46.out h; simp; omega
    exact this
  have hE : Hid (B = if 21 ≤ o ∧ o ≤ 32 then r5 else if o = 44 ∨ o = 45 then r2 else if o = 46 then (a == 0 && r3) || (decide (1 ≤ a) && decide (a ≤ p.imports.xs.length)) else if o = 33 ∨ o = 42 ∨ o = 43 ∨ o = 47 ∨ o = 48 ∨ o = 51 ∨ o = 52 then r1 else true) := by
    have : B = if 21 ≤ o ∧ o ≤ 32 then r5 else if o = 44 ∨ o = 45 then r2 else if o = 46 then (a == 0 && r3) || (decide (1 ≤ a) && decide (a ≤ p.imports.xs.length)) else if o = 33 ∨ o = 42 ∨ o = 43 ∨ o = 47 ∨ o = 48 ∨ o = 51 ∨ o = 52 then r1 else true := by
      rw [hB, h1, h2, h3, h5]; rfl
    exact this
  have g1 : Hid (∀ W : World, Gives Tryz.prog 61 #[p.v, .agg #[.int .i64 a, .int .i64 b]] W (.bool r1)) := fun W => by rw [h1]; exact rInRange_any p ⟨a, b⟩ W
  have g2 : Hid (∀ W : World, Gives Tryz.prog 65 #[.int .i64 a, .int .i64 p.statics.xs.length] W (.bool r2)) := fun W => by rw [h2]; exact rbelow_any _ _ W
  have g3 : Hid (∀ W : World, Gives Tryz.prog 65 #[.int .i64 b, .int .i64 p.methods.xs.length] W (.bool r3)) := fun W => by rw [h3]; exact rbelow_any _ _ W
  have g4 : Hid (∀ W : World, Gives Tryz.prog 65 #[.int .i64 b, .int .i64 64] W (.bool r4)) := fun W => by rw [h4]; exact rbelow_any _ _ W
  have g5 : Hid (∀ W : World, Gives Tryz.prog 65 #[.int .i64 a, .int .i64 m.code.xs.length] W (.bool r5)) := fun W => by rw [h5]; exact rbelow_any _ _ W
  rw [← hB]
  clear hB h1 h2 h3 h4 h5 h46 hi
  show Gives _ _ #[p.v, m.v, .agg #[.int .i64 o, .int .i64 a, .int .i64 b, .int .i64 c]] _ _
  unfold Gives
  go_enter Tryz.func114, Tryz.ntmps114
  go_wp2_with (first | (go_at_call 61; (with_reducible refine (g1.out _).go.mono ?_); rintro e w' ⟨rfl, xw, rfl⟩) | (go_at_call 65; first | ((with_reducible refine (g2.out _).go.mono ?_); rintro e w' ⟨rfl, xw, rfl⟩) | ((with_reducible refine (g3.out _).go.mono ?_); rintro e w' ⟨rfl, xw, rfl⟩) | ((with_reducible refine (g4.out _).go.mono ?_); rintro e w' ⟨rfl, xw, rfl⟩) | ((with_reducible refine (g5.out _).go.mono ?_); rintro e w' ⟨rfl, xw, rfl⟩)) | fail)
  all_goals first
    | (exfalso; omega)
    | (go_ret; exact ⟨ret_bool (by first | (have e46 : o = 46 := (by simpa using ‹(o == 46) = true›); have ea : a = 0 := (by simpa using ‹(a == 0) = true›); rw [hE.out]; simp [e46, ea]; done) | (have := h64.out; rw [hE.out]; grind)), END⟩)
end Go.Proofs.YthagkijplklemaaGreatDoor
end

section
namespace Go.Proofs.YthagkijplklemaaGreatDoor
open Go.ChangeShapes Go.WideShapes Go.ChangeAt Go.RowKit Go.Sc
set_option maxRecDepth 20000 in
set_option maxHeartbeats 1000000 in
theorem rusableL_any (p : Pk) (s : Sl Ty) (w : World) (hs : Hid (s.Ok eTy 3 w)) : Gives Tryz.prog 33 #[p.v, s.v] w (.bool (allUsable p s.xs)) := by
  obtain ⟨f, hf⟩ : ∃ f, f = usable p.imports.xs.length p.classes.xs.length := ⟨_, rfl⟩
  have hU : Hid (∀ (t : Ty) (W : World), Gives Tryz.prog 66 #[p.v, t.v] W (.bool (f t))) := fun t W => by rw [hf]; exact rUsable_any p t W
  have hE : allUsable p s.xs = s.xs.all f := by rw [hf]; rfl
  rw [hE]
  clear hf hE
  obtain ⟨a, c, xs⟩ := s
  have hle := hs.out.le
  have hmx := hs.out.max
  simp only at hle hmx
  show Gives _ _ #[p.v, .slice a xs.length c] _ _
  unfold Gives
  go_enter Tryz.func33, Tryz.ntmps33
  go_wp2_with fail
  refine gen_v (fun V => Below w.heap.size w V ∧ w.heap.size < V.heap.size ∧ (∀ i v, (#[.slice p.aid.a p.aid.xs.length p.aid.c, .int .i64 p.major, .int .i64 p.minor, .slice p.imports.a p.imports.xs.length p.imports.c, .slice p.classes.a p.classes.xs.length p.classes.c, .slice p.methods.a p.methods.xs.length p.methods.c, .slice p.statics.a p.statics.xs.length p.statics.c, .slice p.applets.a p.applets.xs.length p.applets.c] : Array Value)[i]? = some v → V.cell? ⟨w.heap.size, i, none⟩ = some v)) ⟨END, InW.lt, fun i v h => by rw [World.cell?_alloc_new]; exact h⟩ ?_
  rintro V ⟨hwV, hV, hc0⟩
  have HW := hid hwV
  have k0 := hc0 0 _ rfl
  have k1 := hc0 1 _ rfl
  have k2 := hc0 2 _ rfl
  have k3 := hc0 3 _ rfl
  have k4 := hc0 4 _ rfl
  have k5 := hc0 5 _ rfl
  have k6 := hc0 6 _ rfl
  have k7 := hc0 7 _ rfl
  have HS := hid (hs.out.mono hwV)
  haveI : InW w.heap.size V := ⟨hV⟩
  clear hc0 hwV hs
  go_loopw [5] (fun i wr => ∃ (k : Nat) (x : Ext V), k ≤ xs.length ∧ i = .int .i64 k ∧ Hid (∀ (j : Nat) (u : Ty), j < k → xs[j]? = some u → f u = true) ∧ wr = x.val) (fun i _ => xs.length - (intOf i).toNat)
  case atStart => exact ⟨0, ⟨V, Below.refl _ _⟩, Nat.zero_le _, rfl, hid (fun _ _ h => absurd h (by omega)), rfl⟩
  case round =>
    obtain ⟨k, x, hk, rfl, HZ, rfl⟩ := hrel
    by_cases hlt : k < xs.length
    · obtain ⟨y, hy⟩ := getElem?_of_lt hlt
      obtain ⟨hok, b, off, hba, hbl, hc⟩ := HS.out.at_ k y hy
      simp only at hba
      subst hba
      have h0 := hc 0 _ rfl; have h1 := hc 1 _ rfl; have h2 := hc 2 _ rfl; simp only [Nat.add_zero] at h0
      haveI : InW b V := ⟨hbl⟩
      have HY := hid hy
      have hM := hid (fun W => hU.out y W)
      obtain ⟨bM, ebM⟩ : ∃ bM, bM = f y := ⟨_, rfl⟩
      rw [← ebM] at hM
      have EM := hid ebM.symm
      clear ebM hc hok hy hbl
      have hk1 : (0 : Int) ≤ (k : Int) := by omega
      have hk2 : (k : Int) < (xs.length : Int) := by omega
      cases bM with
      | true =>
        go_wp2_with fail
        refine wp_region_ext (by kernel_rfl) (by kernel_rfl) ?_; (repeat (go_big_quiet_step ((go_at_call 66; refine (hM.out _).at)))); refine wpQuiet_nil ?_; intro xw
        go_wp2_with fail
        go_roundw
        case rel => exact ⟨k + 1, ⟨_, END⟩, by omega, by go_num, hid (fun j u hj hu => by
            rcases Nat.lt_succ_iff_lt_or_eq.1 hj with h | rfl
            · exact HZ.out j u h hu
            · have h1 := HY.out.symm.trans hu; cases h1; exact EM.out), rfl⟩
        case measure => simp [intOf]; omega
      | false =>
        go_wp2_with fail
        refine wp_region_ext (by kernel_rfl) (by kernel_rfl) ?_; (repeat (go_big_quiet_step ((go_at_call 66; refine (hM.out _).at)))); refine wpQuiet_nil ?_; intro xw
        go_wp2_with fail
        go_ret
        exact ⟨ret_bool (all_hit HY.out EM.out), ((HW).out.trans (Below.mono (show Below V.heap.size V _ from ENDX) (by have := (HW).out.size; omega)))⟩
    · go_wp2_with fail
      go_ret
      exact ⟨ret_bool (all_end fun j u hu => HZ.out j u (by have := (List.getElem?_eq_some_iff.1 hu).1; omega) hu), ((HW).out.trans (Below.mono (show Below V.heap.size V _ from ENDX) (by have := (HW).out.size; omega)))⟩
set_option maxRecDepth 20000 in
set_option maxHeartbeats 4000000 in
theorem rimports_any (p : Pk) (w : World) (hp : Hid (p.Ok w)) : Gives Tryz.prog 30 #[p.v] w (.int .i64 (firstE (fun k x => impE p k x) 0 p.imports.xs)) := by
  obtain ⟨F, hF⟩ : ∃ F : Nat → Ip → Int, F = fun k x => impE p k x := ⟨_, rfl⟩
  have hE : ∀ k x, F k x = if isName x.aid.xs.length then (if isByte x.major && isByte x.minor then (if bEq x.aid.xs p.aid.xs || (p.imports.xs.take k).any (fun y => bEq x.aid.xs y.aid.xs) then 13 else 0) else 2) else 1 := by rw [hF]; intro k x; rfl
  rw [← hF]
  clear hF
  have ho1 := hp.out.aid
  have ho2 := hp.out.imports
  obtain ⟨aid, mj, mn, ⟨ia, ic, is⟩, cl, me, st, ap⟩ := p
  simp only at ho1 ho2 hE ⊢
  have HE := hid hE
  have hle := ho2.le
  have hmx := ho2.max
  simp only at hle hmx
  clear hp hE
  show Gives _ _ #[.agg #[.slice aid.a aid.xs.length aid.c, .int .i64 mj, .int .i64 mn, .slice ia is.length ic, .slice cl.a cl.xs.length cl.c, .slice me.a me.xs.length me.c, .slice st.a st.xs.length st.c, .slice ap.a ap.xs.length ap.c]] _ _
  unfold Gives
  go_enter Tryz.func30, Tryz.ntmps30
  go_wp2_with fail
  refine gen_v (fun V => Below w.heap.size w V ∧ w.heap.size < V.heap.size ∧ V.cell? ⟨w.heap.size, 0, none⟩ = some (.slice aid.a aid.xs.length aid.c) ∧ V.cell? ⟨w.heap.size, 3, none⟩ = some (.slice ia is.length ic)) ⟨END, InW.lt, by simp, by simp⟩ ?_
  rintro V ⟨hwV, hV, k0, k3⟩
  have HW := hid hwV
  have HA := hid (ho1.mono hwV)
  have HI := hid (ho2.mono hwV)
  haveI : InW w.heap.size V := ⟨hV⟩
  clear hwV ho1 ho2
  go_loopw [3] (fun i wr => ∃ (k : Nat) (x : Ext V), k ≤ is.length ∧ i = .int .i64 k ∧ Hid (∀ (j : Nat) (u : Ip), j < k → is[j]? = some u → F j u = 0) ∧ wr = x.val) (fun i _ => is.length - (intOf i).toNat)
  case atStart => exact ⟨0, ⟨V, Below.refl _ _⟩, Nat.zero_le _, rfl, hid (fun _ _ h => absurd h (by omega)), rfl⟩
  case round =>
    obtain ⟨k, x, hk, rfl, HZ, rfl⟩ := hrel
    by_cases hlt : k < is.length
    · obtain ⟨y, hy⟩ := getElem?_of_lt hlt
      obtain ⟨hok, b, off, hba, hbl, hc⟩ := HI.out.at_ k y hy
      simp only at hba
      subst hba
      have HY := hid hy
      have HFk := HE.out k y
      obtain ⟨⟨ya, yc, ys⟩, y1, y2⟩ := y
      have h0 := hc 0 _ rfl; have h1 := hc 1 _ rfl; have h2 := hc 2 _ rfl; simp only [Nat.add_zero] at h0
      haveI : InW b V := ⟨hbl⟩
      have HO := hid hok.1
      simp only at h0 h1 h2 HFk HO
      obtain ⟨b1, e1⟩ : ∃ b, isName ys.length = !b := ⟨!isName ys.length, by simp⟩
      obtain ⟨b2, e2⟩ : ∃ b, isByte y1 = !b := ⟨!isByte y1, by simp⟩
      obtain ⟨b3, e3⟩ : ∃ b, isByte y2 = !b := ⟨!isByte y2, by simp⟩
      obtain ⟨b4, e4⟩ : ∃ b, b = bEq ys aid.xs := ⟨_, rfl⟩
      have g1 : Hid (∀ W : World, Gives Tryz.prog 28 #[.slice ya ys.length yc] W (.bool (!b1))) := fun W => by rw [← e1]; exact risName_any _ _ _ W
      have g2 : Hid (∀ W : World, Gives Tryz.prog 29 #[.int .i64 y1] W (.bool (!b2))) := fun W => by rw [← e2]; exact risByte_any _ W
      have g3 : Hid (∀ W : World, Gives Tryz.prog 29 #[.int .i64 y2] W (.bool (!b3))) := fun W => by rw [← e3]; exact risByte_any _ W
      have g4 : Hid (∀ W : World, Below V.heap.size V W → Gives Tryz.prog 16 #[.slice ya ys.length yc, .slice aid.a aid.xs.length aid.c] W (.bool b4)) := fun W h => by rw [e4]; exact rsame_any ⟨ya, yc, ys⟩ aid W (HO.out.mono h) (HA.out.mono h)
      rw [e1, e2, e3, ← e4] at HFk
      have HFK := hid HFk
      clear HFk e1 e2 e3 e4 hc hok hy
      have hk1 : (0 : Int) ≤ (k : Int) := by omega
      have hk2 : (k : Int) < (is.length : Int) := by omega
      go_wp2_with (first | (go_at_call 28; refine (g1.out _).go.mono ?_; rintro e w' ⟨rfl, xw, rfl⟩) | (go_at_call 29; first | ((with_reducible refine (g2.out _).go.mono ?_); rintro e w' ⟨rfl, xw, rfl⟩) | ((with_reducible refine (g3.out _).go.mono ?_); rintro e w' ⟨rfl, xw, rfl⟩)) | (go_at_call 16; refine (g4.out _ ENDX).go.mono ?_; rintro e w' ⟨rfl, xw, rfl⟩) | fail)
      all_goals try (go_ret; exact ⟨ret_int (fe_some HZ.out HY.out (by rw [HFK.out]; simp [*]; done) (by omega)), ((HW).out.trans (Below.mono (show Below V.heap.size V _ from ENDX) (by have := (HW).out.size; omega)))⟩; done)
      have t1 : b1 = false := by assumption
      have t2 : b2 = false := by assumption
      have t3 : b3 = false := by assumption
      have t4 : b4 = false := by assumption
      subst t1 t2 t3 t4
      simp only [Bool.not_false, Bool.and_self, if_true, Bool.false_or] at HFK
      refine gen_v (fun V2 => Below V.heap.size V V2 ∧ x.val.heap.size < V2.heap.size ∧ V2.cell? ⟨x.val.heap.size, 0, none⟩ = some (.slice ya ys.length yc)) ⟨ENDX, InW.lt, by simp [Ext.cell]⟩ ?_
      rintro V2 ⟨hV2, hxl, kx⟩
      have HV2 := hid hV2
      have hvs := hV2.size
      haveI : InW w.heap.size V2 := ⟨by omega⟩
      haveI : InW x.val.heap.size V2 := ⟨hxl⟩
      have k0' := (hV2.cell (p := ⟨w.heap.size, 0, none⟩) hV).trans k0
      have k3' := (hV2.cell (p := ⟨w.heap.size, 3, none⟩) hV).trans k3
      have hxs := x.size
      clear hV2 g1 g2 g3 g4 h0 h1 h2
      go_loopw [5] (fun i wr => ∃ (j : Nat) (z : Ext V2), j ≤ k ∧ i = .int .i64 j ∧ Hid (∀ (n : Nat) (u : Ip), n < j → is[n]? = some u → bEq ys u.aid.xs = false) ∧ wr = z.val) (fun i _ => k - (intOf i).toNat)
      case atStart => exact ⟨0, ⟨V2, Below.refl _ _⟩, Nat.zero_le _, rfl, hid (fun _ _ h => absurd h (by omega)), rfl⟩
      case round =>
        obtain ⟨j, z, hj, rfl, HZ2, rfl⟩ := hrel
        by_cases hjt : j < k
        · obtain ⟨u, hu⟩ := getElem?_of_lt (show j < is.length by omega)
          obtain ⟨huk, b', off', hba', hbl', hcu⟩ := HI.out.at_ j u hu
          cases hba'
          have HU := hid hu
          obtain ⟨⟨ua, uc, us⟩, u1, u2⟩ := u
          have g0 := hcu 0 _ rfl; have g1 := hcu 1 _ rfl; have g2 := hcu 2 _ rfl; simp only [Nat.add_zero] at g0
          have HUO := hid huk.1
          simp only at g0 g1 g2 HUO
          obtain ⟨bS, eS⟩ : ∃ bS, bS = bEq ys us := ⟨_, rfl⟩
          have gS : Hid (∀ W : World, Below V.heap.size V W → Gives Tryz.prog 16 #[.slice ya ys.length yc, .slice ua us.length uc] W (.bool bS)) := fun W h => by rw [eS]; exact rsame_any ⟨ya, yc, ys⟩ ⟨ua, uc, us⟩ W (HO.out.mono h) (HUO.out.mono h)
          have ES := hid eS.symm
          have HJ := hid hjt
          have c0 := (HV2.out.cell (p := ⟨b, off + j * 3, none⟩) hbl').trans g0
          haveI : InW b V2 := ⟨Nat.lt_of_lt_of_le hbl' HV2.out.size⟩
          clear eS hcu huk hu g0 g1 g2
          have hj1 : (0 : Int) ≤ (j : Int) := by omega
          have hj2 : (j : Int) < (is.length : Int) := by omega
          have hj3 : (j : Int) < (k : Int) := by omega
          cases bS with
          | true =>
            go_wp2_with fail
            refine wp_region_ext (by kernel_rfl) (by kernel_rfl) ?_; (repeat (go_big_quiet_step ((go_at_call 16; refine (gS.out _ ENDX).at)))); refine wpQuiet_nil ?_; intro xw
            go_wp2_with fail
            go_ret
            exact ⟨ret_int (fe_some HZ.out HY.out (by rw [HFK.out, any_take_hit HJ.out HU.out ES.out]; rfl) (by omega)), ((HW).out.trans (Below.mono (show Below V.heap.size V _ from ENDX) (by have := (HW).out.size; omega)))⟩
          | false =>
            go_wp2_with fail
            refine wp_region_ext (by kernel_rfl) (by kernel_rfl) ?_; (repeat (go_big_quiet_step ((go_at_call 16; refine (gS.out _ ENDX).at)))); refine wpQuiet_nil ?_; intro xw
            go_wp2_with fail
            go_roundw
            case rel => exact ⟨j + 1, ⟨_, END⟩, by omega, by go_num, hid (fun n u hn hu => by
                rcases Nat.lt_succ_iff_lt_or_eq.1 hn with h | rfl
                · exact HZ2.out n u h hu
                · have h1 := HU.out.symm.trans hu; cases h1; exact ES.out), rfl⟩
            case measure => simp [intOf]; omega
        · have HX := hid (any_take_miss (k := k) (f := fun y : Ip => bEq ys y.aid.xs) (xs := is) fun n u hn hu => HZ2.out n u (by omega) hu)
          go_wp2_with fail
          go_roundw
          case rel => exact ⟨k + 1, ⟨_, ENDX⟩, by omega, by go_num, hid (fun n u hn hu => by
              rcases Nat.lt_succ_iff_lt_or_eq.1 hn with h | rfl
              · exact HZ.out n u h hu
              · have h1 := HY.out.symm.trans hu; cases h1; rw [HFK.out, HX.out]; rfl), rfl⟩
          case measure => simp [intOf]; omega
    · go_wp2_with fail
      go_ret
      exact ⟨ret_int (fe_none fun j u hu => HZ.out j u (by have := (List.getElem?_eq_some_iff.1 hu).1; omega) hu), ((HW).out.trans (Below.mono (show Below V.heap.size V _ from ENDX) (by have := (HW).out.size; omega)))⟩
end Go.Proofs.YthagkijplklemaaGreatDoor
end
