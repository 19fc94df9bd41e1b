/- Check of the program: methods. Check of the program: a method. Check of the program: a method, its ways. -/
import Derived.Test.YthagkijplklemaaGreatDoorM07
import Derived.Test.YthagkijplklemaaGreatDoorM01
section
namespace Go.Proofs.YthagkijplklemaaGreatDoor
open Go.ChangeShapes Go.WideShapes Go.ChangeAt Go.RowKit Go.Sc
def named (p : Pk) (nc : Nat) (i : In) : Bool :=
  if 21 ≤ i.op ∧ i.op ≤ 32 then below i.a nc
  else if i.op = 44 ∨ i.op = 45 then below i.a p.statics.xs.length
  else if i.op = 46 then (i.a == 0 && below i.b p.methods.xs.length) || (decide (1 ≤ i.a) && decide (i.a ≤ p.imports.xs.length))
  else if i.op = 33 ∨ i.op = 42 ∨ i.op = 43 ∨ i.op = 47 ∨ i.op = 48 ∨ i.op = 51 ∨ i.op = 52 then inRange p.imports.xs.length p.classes.xs.length ⟨i.a, i.b⟩
  else true
set_option maxHeartbeats 2000000 in
theorem named_any (p : Pk) (m : Me) (i : In) (w : World) : Gives Tryz.prog 213 #[p.v, m.v, i.v] w (.bool (named p m.code.xs.length i)) := by
  unfold Gives
  go_enter Tryz.func213, Tryz.ntmps213
  go_wp2_with (first | (go_at_call 111; refine (within_any _ _ _).go.mono ?_; rintro e w' ⟨rfl, xw, rfl⟩) | (go_at_call 162; refine (inRange_any p ⟨i.a, i.b⟩ _).go.mono ?_; rintro e w' ⟨rfl, xw, rfl⟩))
  all_goals first
    | (exfalso; omega)
    | (go_ret; exact ⟨ret_bool (by unfold named; grind), (by with_reducible repeat' (first | exact Below.refl _ _ | exact Nat.le_refl _ | refine Below.alloc ?_ ?_ _ | refine below_ext _ ?_ ?_ | refine Below.drew ?_ | refine Below.setCell ?_ ?_ _ | refine le_alloc ?_ | refine Ext.le_size _ ?_ | refine le_drew ?_ | refine le_setCell ?_))⟩)
def instrE (p : Pk) (nc : Nat) (i : In) : Int := if insE i = 0 then (if named p nc i then 0 else 2) else insE i
theorem instruction_any (p : Pk) (m : Me) (i : In) (w : World) : Gives Tryz.prog 170 #[p.v, m.v, i.v] w (.int .i64 (instrE p m.code.xs.length i)) := by
  unfold Gives
  go_enter Tryz.func170, Tryz.ntmps170
  go_wp2_with (first | (go_at_call 212; refine (codeCheck_any i _).go.mono ?_; rintro e w' ⟨rfl, xw, rfl⟩) | (go_at_call 213; refine (named_any p m i _).go.mono ?_; rintro e w' ⟨rfl, xw, rfl⟩))
  all_goals first
    | (exfalso; omega)
    | (go_ret; exact ⟨ret_int (by unfold instrE; grind), (by with_reducible repeat' (first | exact Below.refl _ _ | exact Nat.le_refl _ | refine Below.alloc ?_ ?_ _ | refine below_ext _ ?_ ?_ | refine Below.drew ?_ | refine Below.setCell ?_ ?_ _ | refine le_alloc ?_ | refine Ext.le_size _ ?_ | refine le_drew ?_ | refine le_setCell ?_))⟩)
theorem method1_any (p : Pk) (m : Me) (k : Int) (i : In) (cb mb : Nat) (w : World) (hc : Hid (PkAt w cb p)) (hm : Hid (MeAt w mb m)) :
    Gives Tryz.prog 169 #[.int .i64 k, i.v, .pointer (some ⟨cb, 0, none⟩), .pointer (some ⟨mb, 0, none⟩)] w (.int .i64 (instrE p m.code.xs.length i)) := by
  obtain ⟨hlt, c0, c1, c2, c3, c4, c5, c6, c7⟩ := hc.out
  haveI : InW cb w := ⟨hlt⟩
  obtain ⟨hlt2, d0, d1, d2, d3, d4, d5, d6, d7, d8, d9, d10⟩ := hm.out
  haveI : InW mb w := ⟨hlt2⟩
  unfold Gives
  go_enter Tryz.func169, Tryz.ntmps169
  go_wp2_with ((go_at_call 170; refine (instruction_any p m i _).go.mono ?_; rintro e w' ⟨rfl, xw, rfl⟩))
  go_ret
  exact ⟨rfl, (by with_reducible repeat' (first | exact Below.refl _ _ | exact Nat.le_refl _ | refine Below.alloc ?_ ?_ _ | refine below_ext _ ?_ ?_ | refine Below.drew ?_ | refine Below.setCell ?_ ?_ _ | refine le_alloc ?_ | refine Ext.le_size _ ?_ | refine le_drew ?_ | refine le_setCell ?_))⟩
def hdE (nc : Nat) (h : Hd) : Int := if h.f < 0 ∨ h.t ≤ h.f ∨ nc < h.t ∨ below h.g nc = false ∨ h.w < 0 ∨ 65535 < h.w then 2 else 0
theorem method2_any (m : Me) (k : Int) (h : Hd) (mb : Nat) (w : World) (hm : Hid (CellAt w mb 9 (.slice m.code.a m.code.xs.length m.code.c))) :
    Gives Tryz.prog 172 #[.int .i64 k, h.v, .pointer (some ⟨mb, 0, none⟩)] w (.int .i64 (hdE m.code.xs.length h)) := by
  obtain ⟨hlt2, d9⟩ := hm.out
  haveI : InW mb w := ⟨hlt2⟩
  unfold Gives
  go_enter Tryz.func172, Tryz.ntmps172
  go_wp2_with ((go_at_call 111; refine (within_any _ _ _).go.mono ?_; rintro e w' ⟨rfl, xw, rfl⟩))
  all_goals first
    | (exfalso; omega)
    | (go_ret; exact ⟨ret_int (by unfold hdE; grind), (by with_reducible repeat' (first | exact Below.refl _ _ | exact Nat.le_refl _ | refine Below.alloc ?_ ?_ _ | refine below_ext _ ?_ ?_ | refine Below.drew ?_ | refine Below.setCell ?_ ?_ _ | refine le_alloc ?_ | refine Ext.le_size _ ?_ | refine le_drew ?_ | refine le_setCell ?_))⟩)
set_option maxRecDepth 20000 in
theorem first_ins (s : Sl In) (F : Nat → In → Int) (c0 c1 : Value) (w : World) (hs : Hid (s.Ok eIn 4 w))
    (hf : Hid (∀ (k : Nat) (x : In) (W : World), Below w.heap.size w W → s.xs[k]? = some x → Gives Tryz.prog 169 #[.int .i64 k, x.v, c0, c1] W (.int .i64 (F k x)))) :
    Gives Tryz.prog 168 #[s.v, .func (.func 169) #[] #[c0, c1]] w (.int .i64 (firstE F 0 s.xs)) := by
  obtain ⟨a, c, xs⟩ := s
  have hle := hs.out.le
  have hmx := hs.out.max
  simp only at hle hmx
  show Gives _ _ #[.slice a xs.length c, .func (.func 169) _ _] _ _
  unfold Gives
  go_enter Tryz.func168, Tryz.ntmps168
  go_wp2_with fail
  go_loopw [10] (fun i wr => ∃ k : Nat, k ≤ xs.length ∧ i = .int .i64 k ∧ (∀ (j : Nat) (x : In), j < k → xs[j]? = some x → F j x = 0) ∧ ∃ x : Ext w, wr = x.val) (fun i _ => xs.length - (intOf i).toNat)
  case atStart => exact ⟨0, Nat.zero_le _, rfl, fun _ _ h => absurd h (by omega), ⟨w, Below.refl _ _⟩, rfl⟩
  case round =>
    obtain ⟨k, hk, rfl, hz, x, rfl⟩ := hrel
    have HZ := hid hz
    clear hz
    by_cases hlt : k < xs.length
    · obtain ⟨y, hy⟩ := getElem?_of_lt hlt
      obtain ⟨hok, b, off, hba, hbl, hc⟩ := hs.out.at_ k y hy
      simp only at hba
      subst hba
      have h0 := hc 0 _ rfl; have h1 := hc 1 _ rfl; have h2 := hc 2 _ rfl; have h3 := hc 3 _ rfl; simp only [Nat.add_zero] at h0
      haveI : InW b w := ⟨hbl⟩
      have HY := hid hy
      clear hc hok hy hbl
      have hk1 : (0 : Int) ≤ (k : Int) := by omega
      have hk2 : (k : Int) < (xs.length : Int) := by omega
      by_cases hF : F k y = 0
      · have hF' : (F k y != 0) = false := by simp [hF]
        have HF := hid hF
        clear hF
        go_wp2_with (go_at_call 169; refine (hf.out k y _ (by with_reducible repeat' (first | exact Below.refl _ _ | exact Nat.le_refl _ | refine Below.alloc ?_ ?_ _ | refine below_ext _ ?_ ?_ | refine Below.drew ?_ | refine Below.setCell ?_ ?_ _ | refine le_alloc ?_ | refine Ext.le_size _ ?_ | refine le_drew ?_ | refine le_setCell ?_)) HY.out).go.mono ?_; rintro e w' ⟨rfl, x, rfl⟩)
        go_roundw
        case rel => exact ⟨k + 1, by omega, by go_num, fun j z hj hzz => by
            rcases Nat.lt_succ_iff_lt_or_eq.1 hj with h | rfl
            · exact HZ.out j z h hzz
            · have := HY.out.symm.trans hzz; cases this; exact HF.out, ⟨_, (by with_reducible repeat' (first | exact Below.refl _ _ | exact Nat.le_refl _ | refine Below.alloc ?_ ?_ _ | refine below_ext _ ?_ ?_ | refine Below.drew ?_ | refine Below.setCell ?_ ?_ _ | refine le_alloc ?_ | refine Ext.le_size _ ?_ | refine le_drew ?_ | refine le_setCell ?_))⟩, rfl⟩
        case measure => simp [intOf]; omega
      · have hF' : (F k y != 0) = true := by simp [hF]
        have HF := hid hF
        clear hF
        go_wp2_with (go_at_call 169; refine (hf.out k y _ (by with_reducible repeat' (first | exact Below.refl _ _ | exact Nat.le_refl _ | refine Below.alloc ?_ ?_ _ | refine below_ext _ ?_ ?_ | refine Below.drew ?_ | refine Below.setCell ?_ ?_ _ | refine le_alloc ?_ | refine Ext.le_size _ ?_ | refine le_drew ?_ | refine le_setCell ?_)) HY.out).go.mono ?_; rintro e w' ⟨rfl, x, rfl⟩)
        go_ret
        refine ⟨ret_int ?_, (by with_reducible repeat' (first | exact Below.refl _ _ | exact Nat.le_refl _ | refine Below.alloc ?_ ?_ _ | refine below_ext _ ?_ ?_ | refine Below.drew ?_ | refine Below.setCell ?_ ?_ _ | refine le_alloc ?_ | refine Ext.le_size _ ?_ | refine le_drew ?_ | refine le_setCell ?_))⟩
        have := firstE_some (F := F) (n := 0) (k := k) (y := y) (by simpa using HZ.out) HY.out (by simpa using HF.out)
        simp only [Nat.zero_add] at this
        exact this.symm
    · go_wp2_with fail
      go_ret
      refine ⟨ret_int ?_, (by with_reducible repeat' (first | exact Below.refl _ _ | exact Nat.le_refl _ | refine Below.alloc ?_ ?_ _ | refine below_ext _ ?_ ?_ | refine Below.drew ?_ | refine Below.setCell ?_ ?_ _ | refine le_alloc ?_ | refine Ext.le_size _ ?_ | refine le_drew ?_ | refine le_setCell ?_))⟩
      refine (firstE_none fun j z hz => ?_).symm
      rw [Nat.zero_add]
      exact HZ.out j z (by have := (List.getElem?_eq_some_iff.1 hz).1; omega) hz
set_option maxRecDepth 20000 in
theorem first_hds (s : Sl Hd) (F : Nat → Hd → Int) (c0 : Value) (w : World) (hs : Hid (s.Ok eHd 4 w))
    (hf : Hid (∀ (k : Nat) (x : Hd) (W : World), Below w.heap.size w W → s.xs[k]? = some x → Gives Tryz.prog 172 #[.int .i64 k, x.v, c0] W (.int .i64 (F k x)))) :
    Gives Tryz.prog 171 #[s.v, .func (.func 172) #[] #[c0]] w (.int .i64 (firstE F 0 s.xs)) := by
  obtain ⟨a, c, xs⟩ := s
  have hle := hs.out.le
  have hmx := hs.out.max
  simp only at hle hmx
  show Gives _ _ #[.slice a xs.length c, .func (.func 172) _ _] _ _
  unfold Gives
  go_enter Tryz.func171, Tryz.ntmps171
  go_wp2_with fail
  go_loopw [10] (fun i wr => ∃ k : Nat, k ≤ xs.length ∧ i = .int .i64 k ∧ (∀ (j : Nat) (x : Hd), j < k → xs[j]? = some x → F j x = 0) ∧ ∃ x : Ext w, wr = x.val) (fun i _ => xs.length - (intOf i).toNat)
  case atStart => exact ⟨0, Nat.zero_le _, rfl, fun _ _ h => absurd h (by omega), ⟨w, Below.refl _ _⟩, rfl⟩
  case round =>
    obtain ⟨k, hk, rfl, hz, x, rfl⟩ := hrel
    have HZ := hid hz
    clear hz
    by_cases hlt : k < xs.length
    · obtain ⟨y, hy⟩ := getElem?_of_lt hlt
      obtain ⟨hok, b, off, hba, hbl, hc⟩ := hs.out.at_ k y hy
      simp only at hba
      subst hba
      have h0 := hc 0 _ rfl; have h1 := hc 1 _ rfl; have h2 := hc 2 _ rfl; have h3 := hc 3 _ rfl; simp only [Nat.add_zero] at h0
      haveI : InW b w := ⟨hbl⟩
      have HY := hid hy
      clear hc hok hy hbl
      have hk1 : (0 : Int) ≤ (k : Int) := by omega
      have hk2 : (k : Int) < (xs.length : Int) := by omega
      by_cases hF : F k y = 0
      · have hF' : (F k y != 0) = false := by simp [hF]
        have HF := hid hF
        clear hF
        go_wp2_with (go_at_call 172; refine (hf.out k y _ (by with_reducible repeat' (first | exact Below.refl _ _ | exact Nat.le_refl _ | refine Below.alloc ?_ ?_ _ | refine below_ext _ ?_ ?_ | refine Below.drew ?_ | refine Below.setCell ?_ ?_ _ | refine le_alloc ?_ | refine Ext.le_size _ ?_ | refine le_drew ?_ | refine le_setCell ?_)) HY.out).go.mono ?_; rintro e w' ⟨rfl, x, rfl⟩)
        go_roundw
        case rel => exact ⟨k + 1, by omega, by go_num, fun j z hj hzz => by
            rcases Nat.lt_succ_iff_lt_or_eq.1 hj with h | rfl
            · exact HZ.out j z h hzz
            · have := HY.out.symm.trans hzz; cases this; exact HF.out, ⟨_, (by with_reducible repeat' (first | exact Below.refl _ _ | exact Nat.le_refl _ | refine Below.alloc ?_ ?_ _ | refine below_ext _ ?_ ?_ | refine Below.drew ?_ | refine Below.setCell ?_ ?_ _ | refine le_alloc ?_ | refine Ext.le_size _ ?_ | refine le_drew ?_ | refine le_setCell ?_))⟩, rfl⟩
        case measure => simp [intOf]; omega
      · have hF' : (F k y != 0) = true := by simp [hF]
        have HF := hid hF
        clear hF
        go_wp2_with (go_at_call 172; refine (hf.out k y _ (by with_reducible repeat' (first | exact Below.refl _ _ | exact Nat.le_refl _ | refine Below.alloc ?_ ?_ _ | refine below_ext _ ?_ ?_ | refine Below.drew ?_ | refine Below.setCell ?_ ?_ _ | refine le_alloc ?_ | refine Ext.le_size _ ?_ | refine le_drew ?_ | refine le_setCell ?_)) HY.out).go.mono ?_; rintro e w' ⟨rfl, x, rfl⟩)
        go_ret
        refine ⟨ret_int ?_, (by with_reducible repeat' (first | exact Below.refl _ _ | exact Nat.le_refl _ | refine Below.alloc ?_ ?_ _ | refine below_ext _ ?_ ?_ | refine Below.drew ?_ | refine Below.setCell ?_ ?_ _ | refine le_alloc ?_ | refine Ext.le_size _ ?_ | refine le_drew ?_ | refine le_setCell ?_))⟩
        have := firstE_some (F := F) (n := 0) (k := k) (y := y) (by simpa using HZ.out) HY.out (by simpa using HF.out)
        simp only [Nat.zero_add] at this
        exact this.symm
    · go_wp2_with fail
      go_ret
      refine ⟨ret_int ?_, (by with_reducible repeat' (first | exact Below.refl _ _ | exact Nat.le_refl _ | refine Below.alloc ?_ ?_ _ | refine below_ext _ ?_ ?_ | refine Below.drew ?_ | refine Below.setCell ?_ ?_ _ | refine le_alloc ?_ | refine Ext.le_size _ ?_ | refine le_drew ?_ | refine le_setCell ?_))⟩
      refine (firstE_none fun j z hz => ?_).symm
      rw [Nat.zero_add]
      exact HZ.out j z (by have := (List.getElem?_eq_some_iff.1 hz).1; omega) hz
/-- Whether class number n is an interface. -/
def classI (p : Pk) (n : Int) : Bool := match p.classes.xs[n.toNat]? with | some c => c.isI | none => false
def metE (p : Pk) (m : Me) : Int :=
  if (m.static = true ∧ ¬ m.cls = 0) ∨ (m.static = false ∧ below m.cls p.classes.xs.length = false) then 2
  else if 6 < m.params.xs.length then 3
  else if allUsable p m.params.xs = false ∨ ((¬ m.result.k = 0 ∨ ¬ m.result.c.p = 0 ∨ ¬ m.result.c.c = 0) ∧ usable p.imports.xs.length p.classes.xs.length ⟨m.result.k, ⟨m.result.c.p, m.result.c.c⟩⟩ = false) then 22
  else if ¬ m.abs = (!m.static && classI p m.cls) then 4
  else if m.abs = true then (if ¬ m.locals = 0 ∨ ¬ m.stack = 0 ∨ 0 < m.code.xs.length ∨ 0 < m.hs.xs.length then 4 else 0)
  else if m.locals < m.params.xs.length + (bif m.static then 0 else 1) ∨ 16 < m.locals ∨ m.stack < 0 ∨ 16 < m.stack then 2
  else if m.code.xs.length = 0 then 4
  else if 256 < m.code.xs.length ∨ 8 < m.hs.xs.length then 3
  else if firstE (fun _ i => instrE p m.code.xs.length i) 0 m.code.xs = 0 then firstE (fun _ h => hdE m.code.xs.length h) 0 m.hs.xs
  else firstE (fun _ i => instrE p m.code.xs.length i) 0 m.code.xs
end Go.Proofs.YthagkijplklemaaGreatDoor
end

section
namespace Go.Proofs.YthagkijplklemaaGreatDoor
open Go.ChangeShapes Go.WideShapes Go.ChangeAt Go.RowKit Go.Sc
theorem ins_first (p : Pk) (m : Me) (cb mb : Nat) : Hid (∀ W : World, m.Ok W → PkAt W cb p → MeAt W mb m → Gives Tryz.prog 168 #[m.code.v, .func (.func 169) #[] #[.pointer (some ⟨cb, 0, none⟩), .pointer (some ⟨mb, 0, none⟩)]] W (.int .i64 (firstE (fun _ i => instrE p m.code.xs.length i) 0 m.code.xs))) :=
  fun W hm h0 h1 => first_ins m.code (fun _ i => instrE p m.code.xs.length i) _ _ W hm.code (fun j i W' hb _ => method1_any p m j i _ _ W' (h0.mono hb) (h1.mono hb))
theorem hds_first (m : Me) (mb : Nat) : Hid (∀ W : World, m.Ok W → MeAt W mb m → Gives Tryz.prog 171 #[m.hs.v, .func (.func 172) #[] #[.pointer (some ⟨mb, 0, none⟩)]] W (.int .i64 (firstE (fun _ h => hdE m.code.xs.length h) 0 m.hs.xs))) :=
  fun W hm h1 => first_hds m.hs (fun _ h => hdE m.code.xs.length h) _ W hm.hs (fun j h W' hb _ => method2_any m j h _ W' ⟨(h1.mono hb).lt, (h1.mono hb).c9⟩)
abbrev withA (p : Pk) (za : Option Addr) : Pk := ⟨p.aid, p.major, p.minor, p.imports, ⟨za, p.classes.c, p.classes.xs⟩, p.methods, p.statics, p.applets⟩
theorem allUsable_za (p : Pk) (za : Option Addr) (s : Sl Ty) (w : World) (hs : Hid (s.Ok eTy 3 w)) :
    Gives Tryz.prog 106 #[(withA p za).v, s.v] w (.bool (allUsable p s.xs)) := allUsable_any (withA p za) s w hs
theorem usable_za (p : Pk) (za : Option Addr) (t : Ty) (w : World) :
    Gives Tryz.prog 167 #[(withA p za).v, t.v] w (.bool (usable p.imports.xs.length p.classes.xs.length t)) := usable_any (withA p za) t w
end Go.Proofs.YthagkijplklemaaGreatDoor
end

section
namespace Go.Proofs.YthagkijplklemaaGreatDoor
open Go.ChangeShapes Go.WideShapes Go.ChangeAt Go.RowKit Go.Sc
set_option maxRecDepth 100000 in
set_option maxHeartbeats 4000000 in
theorem method_tt (p : Pk) (m : Me) (k : Int) (w : World)  (_hp : Hid (p.Ok w)) (hm : Hid (m.Ok w)) (hs : m.static = true) (ha : m.abs = true)  :
    Gives Tryz.prog 105 #[p.v, .int .i64 k, m.v] w (.int .i64 (metE p m)) := by
  have hi := ins_first p m w.heap.size (w.heap.size + 1)
  have hh := hds_first m (w.heap.size + 1)
  have hle := hm.out.params.le
  have hmx := hm.out.params.max
  skip
  have hbx := hid (boxPM w p m hs ha rfl rfl 67 55)
  unfold Gives
  go_enter Tryz.func105, Tryz.ntmps105
  go_wp2_with (first | (go_at_call 111; refine (within_any _ _ _).go.mono ?_; rintro e w' ⟨rfl, xw, rfl⟩) | (go_at_call 106; refine (allUsable_za p (p.classes.a) m.params _ (hm.out.params.mono (by with_reducible repeat' (first | exact Below.refl _ _ | exact Nat.le_refl _ | refine Below.alloc ?_ ?_ _ | refine below_ext _ ?_ ?_ | refine Below.drew ?_ | refine Below.setCell ?_ ?_ _ | refine le_alloc ?_ | refine Ext.le_size _ ?_ | refine le_drew ?_ | refine le_setCell ?_)))).go.mono ?_; rintro e w' ⟨rfl, xw, rfl⟩) | (go_at_call 167; refine (usable_za p (p.classes.a) ⟨_, ⟨_, _⟩⟩ _).go.mono ?_; rintro e w' ⟨rfl, xw, rfl⟩) | (go_at_call 168; refine (hi.out _ (eMe.mono (by with_reducible repeat' (first | exact Below.refl _ _ | exact Nat.le_refl _ | refine Below.alloc ?_ ?_ _ | refine below_ext _ ?_ ?_ | refine Below.drew ?_ | refine Below.setCell ?_ ?_ _ | refine le_alloc ?_ | refine Ext.le_size _ ?_ | refine le_drew ?_ | refine le_setCell ?_)) hm.out) (hbx.out.1.mono (by with_reducible repeat' (first | exact Below.refl _ _ | exact Nat.le_refl _ | refine Below.alloc ?_ ?_ _ | refine below_ext _ ?_ ?_ | refine Below.drew ?_ | refine Below.setCell ?_ ?_ _ | refine le_alloc ?_ | refine Ext.le_size _ ?_ | refine le_drew ?_ | refine le_setCell ?_))) (hbx.out.2.mono (by with_reducible repeat' (first | exact Below.refl _ _ | exact Nat.le_refl _ | refine Below.alloc ?_ ?_ _ | refine below_ext _ ?_ ?_ | refine Below.drew ?_ | refine Below.setCell ?_ ?_ _ | refine le_alloc ?_ | refine Ext.le_size _ ?_ | refine le_drew ?_ | refine le_setCell ?_)))).go.mono ?_; rintro e w' ⟨rfl, xw, rfl⟩) | (go_at_call 171; refine (hh.out _ (eMe.mono (by with_reducible repeat' (first | exact Below.refl _ _ | exact Nat.le_refl _ | refine Below.alloc ?_ ?_ _ | refine below_ext _ ?_ ?_ | refine Below.drew ?_ | refine Below.setCell ?_ ?_ _ | refine le_alloc ?_ | refine Ext.le_size _ ?_ | refine le_drew ?_ | refine le_setCell ?_)) hm.out) (hbx.out.2.mono (by with_reducible repeat' (first | exact Below.refl _ _ | exact Nat.le_refl _ | refine Below.alloc ?_ ?_ _ | refine below_ext _ ?_ ?_ | refine Below.drew ?_ | refine Below.setCell ?_ ?_ _ | refine le_alloc ?_ | refine Ext.le_size _ ?_ | refine le_drew ?_ | refine le_setCell ?_)))).go.mono ?_; rintro e w' ⟨rfl, xw, rfl⟩))
  all_goals first
    | (exfalso; omega)
    | (with_reducible refine wp_region_ext (by kernel_rfl) (by kernel_rfl) ?_
       (repeat (go_big_quiet_step (fail)))
       refine wpQuiet_nil ?_
       intro xw
       go_wp2_with (first | (go_at_call 111; refine (within_any _ _ _).go.mono ?_; rintro e w' ⟨rfl, xw, rfl⟩) | (go_at_call 106; refine (allUsable_za p (p.classes.a) m.params _ (hm.out.params.mono (by with_reducible repeat' (first | exact Below.refl _ _ | exact Nat.le_refl _ | refine Below.alloc ?_ ?_ _ | refine below_ext _ ?_ ?_ | refine Below.drew ?_ | refine Below.setCell ?_ ?_ _ | refine le_alloc ?_ | refine Ext.le_size _ ?_ | refine le_drew ?_ | refine le_setCell ?_)))).go.mono ?_; rintro e w' ⟨rfl, xw, rfl⟩) | (go_at_call 167; refine (usable_za p (p.classes.a) ⟨_, ⟨_, _⟩⟩ _).go.mono ?_; rintro e w' ⟨rfl, xw, rfl⟩) | (go_at_call 168; refine (hi.out _ (eMe.mono (by with_reducible repeat' (first | exact Below.refl _ _ | exact Nat.le_refl _ | refine Below.alloc ?_ ?_ _ | refine below_ext _ ?_ ?_ | refine Below.drew ?_ | refine Below.setCell ?_ ?_ _ | refine le_alloc ?_ | refine Ext.le_size _ ?_ | refine le_drew ?_ | refine le_setCell ?_)) hm.out) (hbx.out.1.mono (by with_reducible repeat' (first | exact Below.refl _ _ | exact Nat.le_refl _ | refine Below.alloc ?_ ?_ _ | refine below_ext _ ?_ ?_ | refine Below.drew ?_ | refine Below.setCell ?_ ?_ _ | refine le_alloc ?_ | refine Ext.le_size _ ?_ | refine le_drew ?_ | refine le_setCell ?_))) (hbx.out.2.mono (by with_reducible repeat' (first | exact Below.refl _ _ | exact Nat.le_refl _ | refine Below.alloc ?_ ?_ _ | refine below_ext _ ?_ ?_ | refine Below.drew ?_ | refine Below.setCell ?_ ?_ _ | refine le_alloc ?_ | refine Ext.le_size _ ?_ | refine le_drew ?_ | refine le_setCell ?_)))).go.mono ?_; rintro e w' ⟨rfl, xw, rfl⟩) | (go_at_call 171; refine (hh.out _ (eMe.mono (by with_reducible repeat' (first | exact Below.refl _ _ | exact Nat.le_refl _ | refine Below.alloc ?_ ?_ _ | refine below_ext _ ?_ ?_ | refine Below.drew ?_ | refine Below.setCell ?_ ?_ _ | refine le_alloc ?_ | refine Ext.le_size _ ?_ | refine le_drew ?_ | refine le_setCell ?_)) hm.out) (hbx.out.2.mono (by with_reducible repeat' (first | exact Below.refl _ _ | exact Nat.le_refl _ | refine Below.alloc ?_ ?_ _ | refine below_ext _ ?_ ?_ | refine Below.drew ?_ | refine Below.setCell ?_ ?_ _ | refine le_alloc ?_ | refine Ext.le_size _ ?_ | refine le_drew ?_ | refine le_setCell ?_)))).go.mono ?_; rintro e w' ⟨rfl, xw, rfl⟩))
       all_goals first
         | (exfalso; omega)
         | (go_ret; exact ⟨ret_int (by unfold metE; grind), (by with_reducible repeat' (first | exact Below.refl _ _ | exact Nat.le_refl _ | refine Below.alloc ?_ ?_ _ | refine below_ext _ ?_ ?_ | refine Below.drew ?_ | refine Below.setCell ?_ ?_ _ | refine le_alloc ?_ | refine Ext.le_size _ ?_ | refine le_drew ?_ | refine le_setCell ?_))⟩))
    | (go_ret; exact ⟨ret_int (by unfold metE; grind), (by with_reducible repeat' (first | exact Below.refl _ _ | exact Nat.le_refl _ | refine Below.alloc ?_ ?_ _ | refine below_ext _ ?_ ?_ | refine Below.drew ?_ | refine Below.setCell ?_ ?_ _ | refine le_alloc ?_ | refine Ext.le_size _ ?_ | refine le_drew ?_ | refine le_setCell ?_))⟩)
set_option maxRecDepth 100000 in
set_option maxHeartbeats 4000000 in
theorem method_tf (p : Pk) (m : Me) (k : Int) (w : World)  (_hp : Hid (p.Ok w)) (hm : Hid (m.Ok w)) (hs : m.static = true) (ha : m.abs = false)  :
    Gives Tryz.prog 105 #[p.v, .int .i64 k, m.v] w (.int .i64 (metE p m)) := by
  have hi := ins_first p m w.heap.size (w.heap.size + 1)
  have hh := hds_first m (w.heap.size + 1)
  have hle := hm.out.params.le
  have hmx := hm.out.params.max
  skip
  have hbx := hid (boxPM w p m hs ha rfl rfl 67 55)
  unfold Gives
  go_enter Tryz.func105, Tryz.ntmps105
  go_wp2_with (first | (go_at_call 111; refine (within_any _ _ _).go.mono ?_; rintro e w' ⟨rfl, xw, rfl⟩) | (go_at_call 106; refine (allUsable_za p (p.classes.a) m.params _ (hm.out.params.mono (by with_reducible repeat' (first | exact Below.refl _ _ | exact Nat.le_refl _ | refine Below.alloc ?_ ?_ _ | refine below_ext _ ?_ ?_ | refine Below.drew ?_ | refine Below.setCell ?_ ?_ _ | refine le_alloc ?_ | refine Ext.le_size _ ?_ | refine le_drew ?_ | refine le_setCell ?_)))).go.mono ?_; rintro e w' ⟨rfl, xw, rfl⟩) | (go_at_call 167; refine (usable_za p (p.classes.a) ⟨_, ⟨_, _⟩⟩ _).go.mono ?_; rintro e w' ⟨rfl, xw, rfl⟩) | (go_at_call 168; refine (hi.out _ (eMe.mono (by with_reducible repeat' (first | exact Below.refl _ _ | exact Nat.le_refl _ | refine Below.alloc ?_ ?_ _ | refine below_ext _ ?_ ?_ | refine Below.drew ?_ | refine Below.setCell ?_ ?_ _ | refine le_alloc ?_ | refine Ext.le_size _ ?_ | refine le_drew ?_ | refine le_setCell ?_)) hm.out) (hbx.out.1.mono (by with_reducible repeat' (first | exact Below.refl _ _ | exact Nat.le_refl _ | refine Below.alloc ?_ ?_ _ | refine below_ext _ ?_ ?_ | refine Below.drew ?_ | refine Below.setCell ?_ ?_ _ | refine le_alloc ?_ | refine Ext.le_size _ ?_ | refine le_drew ?_ | refine le_setCell ?_))) (hbx.out.2.mono (by with_reducible repeat' (first | exact Below.refl _ _ | exact Nat.le_refl _ | refine Below.alloc ?_ ?_ _ | refine below_ext _ ?_ ?_ | refine Below.drew ?_ | refine Below.setCell ?_ ?_ _ | refine le_alloc ?_ | refine Ext.le_size _ ?_ | refine le_drew ?_ | refine le_setCell ?_)))).go.mono ?_; rintro e w' ⟨rfl, xw, rfl⟩) | (go_at_call 171; refine (hh.out _ (eMe.mono (by with_reducible repeat' (first | exact Below.refl _ _ | exact Nat.le_refl _ | refine Below.alloc ?_ ?_ _ | refine below_ext _ ?_ ?_ | refine Below.drew ?_ | refine Below.setCell ?_ ?_ _ | refine le_alloc ?_ | refine Ext.le_size _ ?_ | refine le_drew ?_ | refine le_setCell ?_)) hm.out) (hbx.out.2.mono (by with_reducible repeat' (first | exact Below.refl _ _ | exact Nat.le_refl _ | refine Below.alloc ?_ ?_ _ | refine below_ext _ ?_ ?_ | refine Below.drew ?_ | refine Below.setCell ?_ ?_ _ | refine le_alloc ?_ | refine Ext.le_size _ ?_ | refine le_drew ?_ | refine le_setCell ?_)))).go.mono ?_; rintro e w' ⟨rfl, xw, rfl⟩))
  all_goals first
    | (exfalso; omega)
    | (with_reducible refine wp_region_ext (by kernel_rfl) (by kernel_rfl) ?_
       (repeat (go_big_quiet_step (fail)))
       refine wpQuiet_nil ?_
       intro xw
       go_wp2_with (first | (go_at_call 111; refine (within_any _ _ _).go.mono ?_; rintro e w' ⟨rfl, xw, rfl⟩) | (go_at_call 106; refine (allUsable_za p (p.classes.a) m.params _ (hm.out.params.mono (by with_reducible repeat' (first | exact Below.refl _ _ | exact Nat.le_refl _ | refine Below.alloc ?_ ?_ _ | refine below_ext _ ?_ ?_ | refine Below.drew ?_ | refine Below.setCell ?_ ?_ _ | refine le_alloc ?_ | refine Ext.le_size _ ?_ | refine le_drew ?_ | refine le_setCell ?_)))).go.mono ?_; rintro e w' ⟨rfl, xw, rfl⟩) | (go_at_call 167; refine (usable_za p (p.classes.a) ⟨_, ⟨_, _⟩⟩ _).go.mono ?_; rintro e w' ⟨rfl, xw, rfl⟩) | (go_at_call 168; refine (hi.out _ (eMe.mono (by with_reducible repeat' (first | exact Below.refl _ _ | exact Nat.le_refl _ | refine Below.alloc ?_ ?_ _ | refine below_ext _ ?_ ?_ | refine Below.drew ?_ | refine Below.setCell ?_ ?_ _ | refine le_alloc ?_ | refine Ext.le_size _ ?_ | refine le_drew ?_ | refine le_setCell ?_)) hm.out) (hbx.out.1.mono (by with_reducible repeat' (first | exact Below.refl _ _ | exact Nat.le_refl _ | refine Below.alloc ?_ ?_ _ | refine below_ext _ ?_ ?_ | refine Below.drew ?_ | refine Below.setCell ?_ ?_ _ | refine le_alloc ?_ | refine Ext.le_size _ ?_ | refine le_drew ?_ | refine le_setCell ?_))) (hbx.out.2.mono (by with_reducible repeat' (first | exact Below.refl _ _ | exact Nat.le_refl _ | refine Below.alloc ?_ ?_ _ | refine below_ext _ ?_ ?_ | refine Below.drew ?_ | refine Below.setCell ?_ ?_ _ | refine le_alloc ?_ | refine Ext.le_size _ ?_ | refine le_drew ?_ | refine le_setCell ?_)))).go.mono ?_; rintro e w' ⟨rfl, xw, rfl⟩) | (go_at_call 171; refine (hh.out _ (eMe.mono (by with_reducible repeat' (first | exact Below.refl _ _ | exact Nat.le_refl _ | refine Below.alloc ?_ ?_ _ | refine below_ext _ ?_ ?_ | refine Below.drew ?_ | refine Below.setCell ?_ ?_ _ | refine le_alloc ?_ | refine Ext.le_size _ ?_ | refine le_drew ?_ | refine le_setCell ?_)) hm.out) (hbx.out.2.mono (by with_reducible repeat' (first | exact Below.refl _ _ | exact Nat.le_refl _ | refine Below.alloc ?_ ?_ _ | refine below_ext _ ?_ ?_ | refine Below.drew ?_ | refine Below.setCell ?_ ?_ _ | refine le_alloc ?_ | refine Ext.le_size _ ?_ | refine le_drew ?_ | refine le_setCell ?_)))).go.mono ?_; rintro e w' ⟨rfl, xw, rfl⟩))
       all_goals first
         | (exfalso; omega)
         | (go_ret; exact ⟨ret_int (by unfold metE; grind), (by with_reducible repeat' (first | exact Below.refl _ _ | exact Nat.le_refl _ | refine Below.alloc ?_ ?_ _ | refine below_ext _ ?_ ?_ | refine Below.drew ?_ | refine Below.setCell ?_ ?_ _ | refine le_alloc ?_ | refine Ext.le_size _ ?_ | refine le_drew ?_ | refine le_setCell ?_))⟩))
    | (go_ret; exact ⟨ret_int (by unfold metE; grind), (by with_reducible repeat' (first | exact Below.refl _ _ | exact Nat.le_refl _ | refine Below.alloc ?_ ?_ _ | refine below_ext _ ?_ ?_ | refine Below.drew ?_ | refine Below.setCell ?_ ?_ _ | refine le_alloc ?_ | refine Ext.le_size _ ?_ | refine le_drew ?_ | refine le_setCell ?_))⟩)
set_option maxRecDepth 100000 in
set_option maxHeartbeats 4000000 in
theorem method_fbt (p : Pk) (m : Me) (k : Int) (w : World)  (_hp : Hid (p.Ok w)) (hm : Hid (m.Ok w)) (hs : m.static = false) (ha : m.abs = true) (hb : below m.cls p.classes.xs.length = false) :
    Gives Tryz.prog 105 #[p.v, .int .i64 k, m.v] w (.int .i64 (metE p m)) := by
  have hi := ins_first p m w.heap.size (w.heap.size + 1)
  have hh := hds_first m (w.heap.size + 1)
  have hle := hm.out.params.le
  have hmx := hm.out.params.max
  skip
  have hbx := hid (boxPM w p m hs ha rfl rfl 67 55)
  unfold Gives
  go_enter Tryz.func105, Tryz.ntmps105
  go_wp2_with (first | (go_at_call 111; refine (within_any _ _ _).go.mono ?_; rintro e w' ⟨rfl, xw, rfl⟩) | (go_at_call 106; refine (allUsable_za p (p.classes.a) m.params _ (hm.out.params.mono (by with_reducible repeat' (first | exact Below.refl _ _ | exact Nat.le_refl _ | refine Below.alloc ?_ ?_ _ | refine below_ext _ ?_ ?_ | refine Below.drew ?_ | refine Below.setCell ?_ ?_ _ | refine le_alloc ?_ | refine Ext.le_size _ ?_ | refine le_drew ?_ | refine le_setCell ?_)))).go.mono ?_; rintro e w' ⟨rfl, xw, rfl⟩) | (go_at_call 167; refine (usable_za p (p.classes.a) ⟨_, ⟨_, _⟩⟩ _).go.mono ?_; rintro e w' ⟨rfl, xw, rfl⟩) | (go_at_call 168; refine (hi.out _ (eMe.mono (by with_reducible repeat' (first | exact Below.refl _ _ | exact Nat.le_refl _ | refine Below.alloc ?_ ?_ _ | refine below_ext _ ?_ ?_ | refine Below.drew ?_ | refine Below.setCell ?_ ?_ _ | refine le_alloc ?_ | refine Ext.le_size _ ?_ | refine le_drew ?_ | refine le_setCell ?_)) hm.out) (hbx.out.1.mono (by with_reducible repeat' (first | exact Below.refl _ _ | exact Nat.le_refl _ | refine Below.alloc ?_ ?_ _ | refine below_ext _ ?_ ?_ | refine Below.drew ?_ | refine Below.setCell ?_ ?_ _ | refine le_alloc ?_ | refine Ext.le_size _ ?_ | refine le_drew ?_ | refine le_setCell ?_))) (hbx.out.2.mono (by with_reducible repeat' (first | exact Below.refl _ _ | exact Nat.le_refl _ | refine Below.alloc ?_ ?_ _ | refine below_ext _ ?_ ?_ | refine Below.drew ?_ | refine Below.setCell ?_ ?_ _ | refine le_alloc ?_ | refine Ext.le_size _ ?_ | refine le_drew ?_ | refine le_setCell ?_)))).go.mono ?_; rintro e w' ⟨rfl, xw, rfl⟩) | (go_at_call 171; refine (hh.out _ (eMe.mono (by with_reducible repeat' (first | exact Below.refl _ _ | exact Nat.le_refl _ | refine Below.alloc ?_ ?_ _ | refine below_ext _ ?_ ?_ | refine Below.drew ?_ | refine Below.setCell ?_ ?_ _ | refine le_alloc ?_ | refine Ext.le_size _ ?_ | refine le_drew ?_ | refine le_setCell ?_)) hm.out) (hbx.out.2.mono (by with_reducible repeat' (first | exact Below.refl _ _ | exact Nat.le_refl _ | refine Below.alloc ?_ ?_ _ | refine below_ext _ ?_ ?_ | refine Below.drew ?_ | refine Below.setCell ?_ ?_ _ | refine le_alloc ?_ | refine Ext.le_size _ ?_ | refine le_drew ?_ | refine le_setCell ?_)))).go.mono ?_; rintro e w' ⟨rfl, xw, rfl⟩))
  all_goals first
    | (exfalso; omega)
    | (with_reducible refine wp_region_ext (by kernel_rfl) (by kernel_rfl) ?_
       (repeat (go_big_quiet_step (fail)))
       refine wpQuiet_nil ?_
       intro xw
       go_wp2_with (first | (go_at_call 111; refine (within_any _ _ _).go.mono ?_; rintro e w' ⟨rfl, xw, rfl⟩) | (go_at_call 106; refine (allUsable_za p (p.classes.a) m.params _ (hm.out.params.mono (by with_reducible repeat' (first | exact Below.refl _ _ | exact Nat.le_refl _ | refine Below.alloc ?_ ?_ _ | refine below_ext _ ?_ ?_ | refine Below.drew ?_ | refine Below.setCell ?_ ?_ _ | refine le_alloc ?_ | refine Ext.le_size _ ?_ | refine le_drew ?_ | refine le_setCell ?_)))).go.mono ?_; rintro e w' ⟨rfl, xw, rfl⟩) | (go_at_call 167; refine (usable_za p (p.classes.a) ⟨_, ⟨_, _⟩⟩ _).go.mono ?_; rintro e w' ⟨rfl, xw, rfl⟩) | (go_at_call 168; refine (hi.out _ (eMe.mono (by with_reducible repeat' (first | exact Below.refl _ _ | exact Nat.le_refl _ | refine Below.alloc ?_ ?_ _ | refine below_ext _ ?_ ?_ | refine Below.drew ?_ | refine Below.setCell ?_ ?_ _ | refine le_alloc ?_ | refine Ext.le_size _ ?_ | refine le_drew ?_ | refine le_setCell ?_)) hm.out) (hbx.out.1.mono (by with_reducible repeat' (first | exact Below.refl _ _ | exact Nat.le_refl _ | refine Below.alloc ?_ ?_ _ | refine below_ext _ ?_ ?_ | refine Below.drew ?_ | refine Below.setCell ?_ ?_ _ | refine le_alloc ?_ | refine Ext.le_size _ ?_ | refine le_drew ?_ | refine le_setCell ?_))) (hbx.out.2.mono (by with_reducible repeat' (first | exact Below.refl _ _ | exact Nat.le_refl _ | refine Below.alloc ?_ ?_ _ | refine below_ext _ ?_ ?_ | refine Below.drew ?_ | refine Below.setCell ?_ ?_ _ | refine le_alloc ?_ | refine Ext.le_size _ ?_ | refine le_drew ?_ | refine le_setCell ?_)))).go.mono ?_; rintro e w' ⟨rfl, xw, rfl⟩) | (go_at_call 171; refine (hh.out _ (eMe.mono (by with_reducible repeat' (first | exact Below.refl _ _ | exact Nat.le_refl _ | refine Below.alloc ?_ ?_ _ | refine below_ext _ ?_ ?_ | refine Below.drew ?_ | refine Below.setCell ?_ ?_ _ | refine le_alloc ?_ | refine Ext.le_size _ ?_ | refine le_drew ?_ | refine le_setCell ?_)) hm.out) (hbx.out.2.mono (by with_reducible repeat' (first | exact Below.refl _ _ | exact Nat.le_refl _ | refine Below.alloc ?_ ?_ _ | refine below_ext _ ?_ ?_ | refine Below.drew ?_ | refine Below.setCell ?_ ?_ _ | refine le_alloc ?_ | refine Ext.le_size _ ?_ | refine le_drew ?_ | refine le_setCell ?_)))).go.mono ?_; rintro e w' ⟨rfl, xw, rfl⟩))
       all_goals first
         | (exfalso; omega)
         | (go_ret; exact ⟨ret_int (by unfold metE; grind), (by with_reducible repeat' (first | exact Below.refl _ _ | exact Nat.le_refl _ | refine Below.alloc ?_ ?_ _ | refine below_ext _ ?_ ?_ | refine Below.drew ?_ | refine Below.setCell ?_ ?_ _ | refine le_alloc ?_ | refine Ext.le_size _ ?_ | refine le_drew ?_ | refine le_setCell ?_))⟩))
    | (go_ret; exact ⟨ret_int (by unfold metE; grind), (by with_reducible repeat' (first | exact Below.refl _ _ | exact Nat.le_refl _ | refine Below.alloc ?_ ?_ _ | refine below_ext _ ?_ ?_ | refine Below.drew ?_ | refine Below.setCell ?_ ?_ _ | refine le_alloc ?_ | refine Ext.le_size _ ?_ | refine le_drew ?_ | refine le_setCell ?_))⟩)
set_option maxRecDepth 100000 in
set_option maxHeartbeats 4000000 in
theorem method_fbf (p : Pk) (m : Me) (k : Int) (w : World)  (_hp : Hid (p.Ok w)) (hm : Hid (m.Ok w)) (hs : m.static = false) (ha : m.abs = false) (hb : below m.cls p.classes.xs.length = false) :
    Gives Tryz.prog 105 #[p.v, .int .i64 k, m.v] w (.int .i64 (metE p m)) := by
  have hi := ins_first p m w.heap.size (w.heap.size + 1)
  have hh := hds_first m (w.heap.size + 1)
  have hle := hm.out.params.le
  have hmx := hm.out.params.max
  skip
  have hbx := hid (boxPM w p m hs ha rfl rfl 67 55)
  unfold Gives
  go_enter Tryz.func105, Tryz.ntmps105
  go_wp2_with (first | (go_at_call 111; refine (within_any _ _ _).go.mono ?_; rintro e w' ⟨rfl, xw, rfl⟩) | (go_at_call 106; refine (allUsable_za p (p.classes.a) m.params _ (hm.out.params.mono (by with_reducible repeat' (first | exact Below.refl _ _ | exact Nat.le_refl _ | refine Below.alloc ?_ ?_ _ | refine below_ext _ ?_ ?_ | refine Below.drew ?_ | refine Below.setCell ?_ ?_ _ | refine le_alloc ?_ | refine Ext.le_size _ ?_ | refine le_drew ?_ | refine le_setCell ?_)))).go.mono ?_; rintro e w' ⟨rfl, xw, rfl⟩) | (go_at_call 167; refine (usable_za p (p.classes.a) ⟨_, ⟨_, _⟩⟩ _).go.mono ?_; rintro e w' ⟨rfl, xw, rfl⟩) | (go_at_call 168; refine (hi.out _ (eMe.mono (by with_reducible repeat' (first | exact Below.refl _ _ | exact Nat.le_refl _ | refine Below.alloc ?_ ?_ _ | refine below_ext _ ?_ ?_ | refine Below.drew ?_ | refine Below.setCell ?_ ?_ _ | refine le_alloc ?_ | refine Ext.le_size _ ?_ | refine le_drew ?_ | refine le_setCell ?_)) hm.out) (hbx.out.1.mono (by with_reducible repeat' (first | exact Below.refl _ _ | exact Nat.le_refl _ | refine Below.alloc ?_ ?_ _ | refine below_ext _ ?_ ?_ | refine Below.drew ?_ | refine Below.setCell ?_ ?_ _ | refine le_alloc ?_ | refine Ext.le_size _ ?_ | refine le_drew ?_ | refine le_setCell ?_))) (hbx.out.2.mono (by with_reducible repeat' (first | exact Below.refl _ _ | exact Nat.le_refl _ | refine Below.alloc ?_ ?_ _ | refine below_ext _ ?_ ?_ | refine Below.drew ?_ | refine Below.setCell ?_ ?_ _ | refine le_alloc ?_ | refine Ext.le_size _ ?_ | refine le_drew ?_ | refine le_setCell ?_)))).go.mono ?_; rintro e w' ⟨rfl, xw, rfl⟩) | (go_at_call 171; refine (hh.out _ (eMe.mono (by with_reducible repeat' (first | exact Below.refl _ _ | exact Nat.le_refl _ | refine Below.alloc ?_ ?_ _ | refine below_ext _ ?_ ?_ | refine Below.drew ?_ | refine Below.setCell ?_ ?_ _ | refine le_alloc ?_ | refine Ext.le_size _ ?_ | refine le_drew ?_ | refine le_setCell ?_)) hm.out) (hbx.out.2.mono (by with_reducible repeat' (first | exact Below.refl _ _ | exact Nat.le_refl _ | refine Below.alloc ?_ ?_ _ | refine below_ext _ ?_ ?_ | refine Below.drew ?_ | refine Below.setCell ?_ ?_ _ | refine le_alloc ?_ | refine Ext.le_size _ ?_ | refine le_drew ?_ | refine le_setCell ?_)))).go.mono ?_; rintro e w' ⟨rfl, xw, rfl⟩))
  all_goals first
    | (exfalso; omega)
    | (with_reducible refine wp_region_ext (by kernel_rfl) (by kernel_rfl) ?_
       (repeat (go_big_quiet_step (fail)))
       refine wpQuiet_nil ?_
       intro xw
       go_wp2_with (first | (go_at_call 111; refine (within_any _ _ _).go.mono ?_; rintro e w' ⟨rfl, xw, rfl⟩) | (go_at_call 106; refine (allUsable_za p (p.classes.a) m.params _ (hm.out.params.mono (by with_reducible repeat' (first | exact Below.refl _ _ | exact Nat.le_refl _ | refine Below.alloc ?_ ?_ _ | refine below_ext _ ?_ ?_ | refine Below.drew ?_ | refine Below.setCell ?_ ?_ _ | refine le_alloc ?_ | refine Ext.le_size _ ?_ | refine le_drew ?_ | refine le_setCell ?_)))).go.mono ?_; rintro e w' ⟨rfl, xw, rfl⟩) | (go_at_call 167; refine (usable_za p (p.classes.a) ⟨_, ⟨_, _⟩⟩ _).go.mono ?_; rintro e w' ⟨rfl, xw, rfl⟩) | (go_at_call 168; refine (hi.out _ (eMe.mono (by with_reducible repeat' (first | exact Below.refl _ _ | exact Nat.le_refl _ | refine Below.alloc ?_ ?_ _ | refine below_ext _ ?_ ?_ | refine Below.drew ?_ | refine Below.setCell ?_ ?_ _ | refine le_alloc ?_ | refine Ext.le_size _ ?_ | refine le_drew ?_ | refine le_setCell ?_)) hm.out) (hbx.out.1.mono (by with_reducible repeat' (first | exact Below.refl _ _ | exact Nat.le_refl _ | refine Below.alloc ?_ ?_ _ | refine below_ext _ ?_ ?_ | refine Below.drew ?_ | refine Below.setCell ?_ ?_ _ | refine le_alloc ?_ | refine Ext.le_size _ ?_ | refine le_drew ?_ | refine le_setCell ?_))) (hbx.out.2.mono (by with_reducible repeat' (first | exact Below.refl _ _ | exact Nat.le_refl _ | refine Below.alloc ?_ ?_ _ | refine below_ext _ ?_ ?_ | refine Below.drew ?_ | refine Below.setCell ?_ ?_ _ | refine le_alloc ?_ | refine Ext.le_size _ ?_ | refine le_drew ?_ | refine le_setCell ?_)))).go.mono ?_; rintro e w' ⟨rfl, xw, rfl⟩) | (go_at_call 171; refine (hh.out _ (eMe.mono (by with_reducible repeat' (first | exact Below.refl _ _ | exact Nat.le_refl _ | refine Below.alloc ?_ ?_ _ | refine below_ext _ ?_ ?_ | refine Below.drew ?_ | refine Below.setCell ?_ ?_ _ | refine le_alloc ?_ | refine Ext.le_size _ ?_ | refine le_drew ?_ | refine le_setCell ?_)) hm.out) (hbx.out.2.mono (by with_reducible repeat' (first | exact Below.refl _ _ | exact Nat.le_refl _ | refine Below.alloc ?_ ?_ _ | refine below_ext _ ?_ ?_ | refine Below.drew ?_ | refine Below.setCell ?_ ?_ _ | refine le_alloc ?_ | refine Ext.le_size _ ?_ | refine le_drew ?_ | refine le_setCell ?_)))).go.mono ?_; rintro e w' ⟨rfl, xw, rfl⟩))
       all_goals first
         | (exfalso; omega)
         | (go_ret; exact ⟨ret_int (by unfold metE; grind), (by with_reducible repeat' (first | exact Below.refl _ _ | exact Nat.le_refl _ | refine Below.alloc ?_ ?_ _ | refine below_ext _ ?_ ?_ | refine Below.drew ?_ | refine Below.setCell ?_ ?_ _ | refine le_alloc ?_ | refine Ext.le_size _ ?_ | refine le_drew ?_ | refine le_setCell ?_))⟩))
    | (go_ret; exact ⟨ret_int (by unfold metE; grind), (by with_reducible repeat' (first | exact Below.refl _ _ | exact Nat.le_refl _ | refine Below.alloc ?_ ?_ _ | refine below_ext _ ?_ ?_ | refine Below.drew ?_ | refine Below.setCell ?_ ?_ _ | refine le_alloc ?_ | refine Ext.le_size _ ?_ | refine le_drew ?_ | refine le_setCell ?_))⟩)
end Go.Proofs.YthagkijplklemaaGreatDoor
end
