/- The five statements about the firewall (chapter 33): for every context, object and flag the law returns true. No condition. -/
import Derived.Test.YtkjjfnpocjppcaaRows
import Derived.Test.YtkjjfnpocjppcaaKit
namespace Go.Proofs.Ytkjjfnpocjppcaa
open Go.ChangeShapes Go.WideShapes Go.ChangeAt Go.RowKit Go.Sc
theorem own : ownKnob Try.prog.godebug = none := by kernel_rfl
theorem laidOut : laidOutB Try.prog = true := by kernel_rfl

/-! ### The decisions, as plain functions -/
def ctx (n : Int) : Bool := decide (0 ≤ n) && decide (n ≤ 16)
def acc (a o : Int) : Bool := ctx a && (ctx o && (a == 0 || a == o))
def shr (a o : Int) : Bool := ctx a && ctx o
def cst (a o : Int) (s : Bool) : Bool := bif s then shr a o else acc a o
def num (ok : Bool) (k o : Int) : Int := bif ok && k == 1 then o else 0
def flg (ok : Bool) (k : Int) : Bool := ok && k == 1
def kp (r : Int) : Bool := decide (0 ≤ r) && decide (r ≤ 512)

/-- An object as a value. -/
abbrev ob (k p c o e : Int) (v : Value) : Value := .agg #[.int .i64 k, .int .i64 p, .int .i64 c, .int .i64 o, .int .i64 e, v]

/-! ### The walks -/

theorem context_any (n : Int) (w : World) : Gives Try.prog 25 #[.int .i64 n] w (.bool (ctx n)) := by
  by_cases h0 : 0 ≤ n <;> by_cases h1 : n ≤ 16
  all_goals
    unfold Gives
    go_enter Try.func25, Try.ntmps25
    go_wp2
    go_ret
    exact ⟨ret_bool (by unfold ctx; grind), Below.refl _ _⟩

theorem rcontext_any (n : Int) (w : World) : Gives Try.prog 23 #[.int .i64 n] w (.bool (ctx n)) := by
  by_cases h0 : 0 ≤ n <;> by_cases h1 : n ≤ 16
  all_goals
    unfold Gives
    go_enter Try.func23, Try.ntmps23
    go_wp2
    go_ret
    exact ⟨ret_bool (by unfold ctx; grind), Below.refl _ _⟩

theorem keep_any (n : Int) (w : World) : Gives Try.prog 19 #[.int .i64 n] w (.bool (kp n)) := by
  by_cases h0 : 0 ≤ n <;> by_cases h1 : n ≤ 512
  all_goals
    unfold Gives
    go_enter Try.func19, Try.ntmps19
    go_wp2
    go_ret
    exact ⟨ret_bool (by unfold kp; grind), Below.refl _ _⟩

theorem rkeep_any (n : Int) (w : World) : Gives Try.prog 20 #[.int .i64 n] w (.bool (kp n)) := by
  by_cases h0 : 0 ≤ n <;> by_cases h1 : n ≤ 512
  all_goals
    unfold Gives
    go_enter Try.func20, Try.ntmps20
    go_wp2
    go_ret
    exact ⟨ret_bool (by unfold kp; grind), Below.refl _ _⟩
theorem buffer_any (n : Int) (w : World) : Gives Try.prog 17 #[.int .i64 n] w (.bool (n == 65535)) := by
  unfold Gives
  go_enter Try.func17, Try.ntmps17
  go_wp2
  go_ret
  exact ⟨rfl, Below.refl _ _⟩
theorem rbuffer_any (n : Int) (w : World) : Gives Try.prog 18 #[.int .i64 n] w (.bool (n == 65535)) := by
  unfold Gives
  go_enter Try.func18, Try.ntmps18
  go_wp2
  go_ret
  exact ⟨rfl, Below.refl _ _⟩
theorem same_any (a o : Int) (w : World) : Gives Try.prog 24 #[.int .i64 a, .int .i64 o] w (.bool (acc a o)) := by
  unfold Gives acc
  cases h0 : ctx a <;> cases h1 : ctx o <;> cases h2 : (a == 0) <;> cases h3 : (a == o)
  all_goals
    go_enter Try.func24, Try.ntmps24
    go_wp2_with (go_at_call 25; refine (context_any _ _).go.mono ?_; rintro e w' ⟨rfl, x, rfl⟩)
    go_ret
    exact ⟨rfl, (by repeat' (first | (with_reducible exact Below.refl _ _) | (with_reducible exact Nat.le_refl _) | (with_reducible refine Below.alloc ?_ ?_ _) | (with_reducible refine below_ext _ ?_ ?_) | (with_reducible refine Below.drew ?_) | (with_reducible refine Below.setCell ?_ ?_ _) | (with_reducible refine le_alloc ?_) | (with_reducible refine Ext.le_size _ ?_) | (with_reducible refine le_drew ?_) | (with_reducible refine le_setCell ?_)))⟩
theorem shared_any (a o : Int) (w : World) : Gives Try.prog 26 #[.int .i64 a, .int .i64 o] w (.bool (shr a o)) := by
  unfold Gives shr
  cases h0 : ctx a <;> cases h1 : ctx o
  all_goals
    go_enter Try.func26, Try.ntmps26
    go_wp2_with (go_at_call 25; refine (context_any _ _).go.mono ?_; rintro e w' ⟨rfl, x, rfl⟩)
    go_ret
    exact ⟨rfl, (by repeat' (first | (with_reducible exact Below.refl _ _) | (with_reducible exact Nat.le_refl _) | (with_reducible refine Below.alloc ?_ ?_ _) | (with_reducible refine below_ext _ ?_ ?_) | (with_reducible refine Below.drew ?_) | (with_reducible refine Below.setCell ?_ ?_ _) | (with_reducible refine le_alloc ?_) | (with_reducible refine Ext.le_size _ ?_) | (with_reducible refine le_drew ?_) | (with_reducible refine le_setCell ?_)))⟩
abbrev tbl : Value := .agg #[.func (.func 24) #[] #[], .func (.func 26) #[] #[]]
theorem table_any (w : World) : Gives Try.prog 22 #[] w tbl := by
  unfold Gives
  go_enter Try.func22, Try.ntmps22
  go_wp2
  go_returns
  exact ⟨rfl, (by repeat' (first | (with_reducible exact Below.refl _ _) | (with_reducible exact Nat.le_refl _) | (with_reducible refine Below.alloc ?_ ?_ _) | (with_reducible refine below_ext _ ?_ ?_) | (with_reducible refine Below.drew ?_) | (with_reducible refine Below.setCell ?_ ?_ _) | (with_reducible refine le_alloc ?_) | (with_reducible refine Ext.le_size _ ?_) | (with_reducible refine le_drew ?_) | (with_reducible refine le_setCell ?_)))⟩
theorem fld0 (w : World) : Sem.run Try.prog (Instr.field 38 tbl 0) w = .ok (.func (.func 24) #[] #[]) w := by kernel_rfl
theorem fld1 (w : World) : Sem.run Try.prog (Instr.field 38 tbl 1) w = .ok (.func (.func 26) #[] #[]) w := by kernel_rfl
theorem access_any (a k p c o e : Int) (v : Value) (w : World) : Gives Try.prog 10 #[.int .i64 a, ob k p c o e v] w (.bool (acc a o)) := by
  have fld := fld0
  unfold Gives
  go_enter Try.func10, Try.ntmps10
  go_wp2
  refine wp_region_ext (by kernel_rfl) (by kernel_rfl) ?_
  repeat (go_big_quiet_step (first | (go_at_call 22; refine (table_any _).at) | (go_at_call 24; refine (same_any _ _ _).at)))
  refine wpQuiet_nil ?_
  intro x
  go_wp2
  go_ret
  exact ⟨rfl, (by repeat' (first | (with_reducible exact Below.refl _ _) | (with_reducible exact Nat.le_refl _) | (with_reducible refine Below.alloc ?_ ?_ _) | (with_reducible refine below_ext _ ?_ ?_) | (with_reducible refine Below.drew ?_) | (with_reducible refine Below.setCell ?_ ?_ _) | (with_reducible refine le_alloc ?_) | (with_reducible refine Ext.le_size _ ?_) | (with_reducible refine le_drew ?_) | (with_reducible refine le_setCell ?_)))⟩
theorem cast_any (a k p c o e : Int) (v : Value) (s : Bool) (w : World) : Gives Try.prog 12 #[.int .i64 a, ob k p c o e v, .bool s] w (.bool (cst a o s)) := by
  have fld := fld0
  have fld' := fld1
  unfold Gives cst
  cases s
  all_goals
    go_enter Try.func12, Try.ntmps12
    go_wp2_with (first | (go_at_call 22; refine (table_any _).go.mono ?_; rintro e w' ⟨rfl, x, rfl⟩) | (go_at_call 24; refine (same_any _ _ _).go.mono ?_; rintro e w' ⟨rfl, x, rfl⟩) | (go_at_call 26; refine (shared_any _ _ _).go.mono ?_; rintro e w' ⟨rfl, x, rfl⟩))
    go_ret
    exact ⟨rfl, (by repeat' (first | (with_reducible exact Below.refl _ _) | (with_reducible exact Nat.le_refl _) | (with_reducible refine Below.alloc ?_ ?_ _) | (with_reducible refine below_ext _ ?_ ?_) | (with_reducible refine Below.drew ?_) | (with_reducible refine Below.setCell ?_ ?_ _) | (with_reducible refine le_alloc ?_) | (with_reducible refine Ext.le_size _ ?_) | (with_reducible refine le_drew ?_) | (with_reducible refine le_setCell ?_)))⟩
theorem call_any (k p c o e : Int) (v : Value) (ok : Bool) (w : World) : Gives Try.prog 21 #[ob k p c o e v, .bool ok] w (.tuple #[.int .i64 (num ok k o), .bool (flg ok k)]) := by
  unfold Gives num flg
  cases ok <;> cases h : (k == 1)
  all_goals
    have h' : (k != 1) = !(k == 1) := rfl
    rw [h] at h'
    go_enter Try.func21, Try.ntmps21
    go_wp2
    go_ret2
    exact ⟨rfl, (by repeat' (first | (with_reducible exact Below.refl _ _) | (with_reducible exact Nat.le_refl _) | (with_reducible refine Below.alloc ?_ ?_ _) | (with_reducible refine below_ext _ ?_ ?_) | (with_reducible refine Below.drew ?_) | (with_reducible refine Below.setCell ?_ ?_ _) | (with_reducible refine le_alloc ?_) | (with_reducible refine Ext.le_size _ ?_) | (with_reducible refine le_drew ?_) | (with_reducible refine le_setCell ?_)))⟩

theorem virtual_any (a k p c o e : Int) (v : Value) (w : World) : Gives Try.prog 8 #[.int .i64 a, ob k p c o e v] w (.tuple #[.int .i64 (num (acc a o) k o), .bool (flg (acc a o) k)]) := by
  unfold Gives
  go_enter Try.func8, Try.ntmps8
  go_wp2
  refine wp_region_ext (by kernel_rfl) (by kernel_rfl) ?_
  repeat (go_big_quiet_step (first | (go_at_call 10; refine (access_any _ _ _ _ _ _ _ _).at) | (go_at_call 21; refine (call_any _ _ _ _ _ _ _ _).at)))
  refine wpQuiet_nil ?_
  intro x
  go_wp2
  go_ret2
  exact ⟨rfl, (by repeat' (first | (with_reducible exact Below.refl _ _) | (with_reducible exact Nat.le_refl _) | (with_reducible refine Below.alloc ?_ ?_ _) | (with_reducible refine below_ext _ ?_ ?_) | (with_reducible refine Below.drew ?_) | (with_reducible refine Below.setCell ?_ ?_ _) | (with_reducible refine le_alloc ?_) | (with_reducible refine Ext.le_size _ ?_) | (with_reducible refine le_drew ?_) | (with_reducible refine le_setCell ?_)))⟩
theorem invoke_any (a k p c o e : Int) (v : Value) (s : Bool) (w : World) : Gives Try.prog 15 #[.int .i64 a, ob k p c o e v, .bool s] w (.tuple #[.int .i64 (num (cst a o s) k o), .bool (flg (cst a o s) k)]) := by
  unfold Gives
  go_enter Try.func15, Try.ntmps15
  go_wp2
  refine wp_region_ext (by kernel_rfl) (by kernel_rfl) ?_
  repeat (go_big_quiet_step (first | (go_at_call 12; refine (cast_any _ _ _ _ _ _ _ _ _).at) | (go_at_call 21; refine (call_any _ _ _ _ _ _ _ _).at)))
  refine wpQuiet_nil ?_
  intro x
  go_wp2
  go_ret2
  exact ⟨rfl, (by repeat' (first | (with_reducible exact Below.refl _ _) | (with_reducible exact Nat.le_refl _) | (with_reducible refine Below.alloc ?_ ?_ _) | (with_reducible refine below_ext _ ?_ ?_) | (with_reducible refine Below.drew ?_) | (with_reducible refine Below.setCell ?_ ?_ _) | (with_reducible refine le_alloc ?_) | (with_reducible refine Ext.le_size _ ?_) | (with_reducible refine le_drew ?_) | (with_reducible refine le_setCell ?_)))⟩
/-! the reference -/
theorem raccess_any (a k p c o e : Int) (v : Value) (w : World) : Gives Try.prog 11 #[.int .i64 a, ob k p c o e v] w (.bool (acc a o)) := by
  unfold Gives acc
  cases h0 : ctx a <;> cases h1 : ctx o <;> cases h2 : (a == 0) <;> cases h3 : (a == o)
  all_goals
    go_enter Try.func11, Try.ntmps11
    go_wp2_with (go_at_call 23; refine (rcontext_any _ _).go.mono ?_; rintro e w' ⟨rfl, x, rfl⟩)
    go_ret
    exact ⟨rfl, (by repeat' (first | (with_reducible exact Below.refl _ _) | (with_reducible exact Nat.le_refl _) | (with_reducible refine Below.alloc ?_ ?_ _) | (with_reducible refine below_ext _ ?_ ?_) | (with_reducible refine Below.drew ?_) | (with_reducible refine Below.setCell ?_ ?_ _) | (with_reducible refine le_alloc ?_) | (with_reducible refine Ext.le_size _ ?_) | (with_reducible refine le_drew ?_) | (with_reducible refine le_setCell ?_)))⟩
theorem acc_shr {a o : Int} (h : acc a o = true) : ctx a = true ∧ ctx o = true := by unfold acc at h; grind
theorem rcast_any (a k p c o e : Int) (v : Value) (s : Bool) (w : World) : Gives Try.prog 13 #[.int .i64 a, ob k p c o e v, .bool s] w (.bool (cst a o s)) := by
  unfold Gives
  cases h0 : acc a o <;> cases s <;> cases h1 : ctx a <;> cases h2 : ctx o
  all_goals
    go_enter Try.func13, Try.ntmps13
    go_wp2_with (first | (go_at_call 23; refine (rcontext_any _ _).go.mono ?_; rintro e w' ⟨rfl, x, rfl⟩) | (go_at_call 11; refine (raccess_any _ _ _ _ _ _ _ _).go.mono ?_; rintro e w' ⟨rfl, x, rfl⟩))
    go_ret
    refine ⟨ret_bool ?_, (by repeat' (first | (with_reducible exact Below.refl _ _) | (with_reducible exact Nat.le_refl _) | (with_reducible refine Below.alloc ?_ ?_ _) | (with_reducible refine below_ext _ ?_ ?_) | (with_reducible refine Below.drew ?_) | (with_reducible refine Below.setCell ?_ ?_ _) | (with_reducible refine le_alloc ?_) | (with_reducible refine Ext.le_size _ ?_) | (with_reducible refine le_drew ?_) | (with_reducible refine le_setCell ?_)))⟩
    unfold cst shr; have := @acc_shr a o; grind
theorem rvirtual_any (a k p c o e : Int) (v : Value) (w : World) : Gives Try.prog 9 #[.int .i64 a, ob k p c o e v] w (.tuple #[.int .i64 (num (acc a o) k o), .bool (flg (acc a o) k)]) := by
  unfold Gives num flg
  cases h0 : (k == 1) <;> cases h1 : acc a o
  all_goals
    go_enter Try.func9, Try.ntmps9
    go_wp2_with (go_at_call 11; refine (raccess_any _ _ _ _ _ _ _ _).go.mono ?_; rintro e w' ⟨rfl, x, rfl⟩)
    go_ret2
    exact ⟨rfl, (by repeat' (first | (with_reducible exact Below.refl _ _) | (with_reducible exact Nat.le_refl _) | (with_reducible refine Below.alloc ?_ ?_ _) | (with_reducible refine below_ext _ ?_ ?_) | (with_reducible refine Below.drew ?_) | (with_reducible refine Below.setCell ?_ ?_ _) | (with_reducible refine le_alloc ?_) | (with_reducible refine Ext.le_size _ ?_) | (with_reducible refine le_drew ?_) | (with_reducible refine le_setCell ?_)))⟩
theorem rinvoke_any (a k p c o e : Int) (v : Value) (s : Bool) (w : World) : Gives Try.prog 16 #[.int .i64 a, ob k p c o e v, .bool s] w (.tuple #[.int .i64 (num (cst a o s) k o), .bool (flg (cst a o s) k)]) := by
  unfold Gives num flg
  cases h0 : (k == 1) <;> cases h1 : cst a o s
  all_goals
    go_enter Try.func16, Try.ntmps16
    go_wp2_with (go_at_call 13; refine (rcast_any _ _ _ _ _ _ _ _ _).go.mono ?_; rintro e w' ⟨rfl, x, rfl⟩)
    go_ret2
    exact ⟨rfl, (by repeat' (first | (with_reducible exact Below.refl _ _) | (with_reducible exact Nat.le_refl _) | (with_reducible refine Below.alloc ?_ ?_ _) | (with_reducible refine below_ext _ ?_ ?_) | (with_reducible refine Below.drew ?_) | (with_reducible refine Below.setCell ?_ ?_ _) | (with_reducible refine le_alloc ?_) | (with_reducible refine Ext.le_size _ ?_) | (with_reducible refine le_drew ?_) | (with_reducible refine le_setCell ?_)))⟩
/-! the example -/
theorem awake_any (w : World) : Gives Try.prog 14 #[] w (.bool true) := by
  unfold Gives
  have n1 : num (acc 0 2) 1 2 = 2 := by decide
  have n2 : flg (acc 0 2) 1 = true := by decide
  have n3 : num (acc 1 2) 1 2 = 0 := by decide
  have n4 : flg (acc 1 2) 1 = false := by decide
  have n5 : num (cst 1 2 true) 1 2 = 2 := by decide
  have n6 : flg (cst 1 2 true) 1 = true := by decide
  have n7 : acc 2 2 = true := by decide
  have n8 : kp 512 = true := by decide
  go_enter Try.func14, Try.ntmps14
  go_wp2_with (first | (go_at_call 8; refine (virtual_any _ _ _ _ _ _ _ _).go.mono ?_; rintro e w' ⟨rfl, x, rfl⟩) | (go_at_call 15; refine (invoke_any _ _ _ _ _ _ _ _ _).go.mono ?_; rintro e w' ⟨rfl, x, rfl⟩) | (go_at_call 10; refine (access_any _ _ _ _ _ _ _ _).go.mono ?_; rintro e w' ⟨rfl, x, rfl⟩) | (go_at_call 19; refine (keep_any _ _).go.mono ?_; rintro e w' ⟨rfl, x, rfl⟩))
  go_ret
  exact ⟨rfl, (by repeat' (first | (with_reducible exact Below.refl _ _) | (with_reducible exact Nat.le_refl _) | (with_reducible refine Below.alloc ?_ ?_ _) | (with_reducible refine below_ext _ ?_ ?_) | (with_reducible refine Below.drew ?_) | (with_reducible refine Below.setCell ?_ ?_ _) | (with_reducible refine le_alloc ?_) | (with_reducible refine Ext.le_size _ ?_) | (with_reducible refine le_drew ?_) | (with_reducible refine le_setCell ?_)))⟩

/-! ### The laws -/
theorem keep_law (r : Int) (w : World) : Gives Try.prog 7 #[.int .i64 r] w (.bool true) := by
  unfold Gives
  have hx : (r == 65535) = true → kp r = false := by intro h; unfold kp; grind
  cases h1 : (r == 65535)
  · cases h2 : kp r
    all_goals
      clear hx
      go_enter Try.func7, Try.ntmps7
      go_wp2_with (first | (go_at_call 17; refine (buffer_any _ _).go.mono ?_; rintro e w' ⟨rfl, x, rfl⟩) | (go_at_call 18; refine (rbuffer_any _ _).go.mono ?_; rintro e w' ⟨rfl, x, rfl⟩) | (go_at_call 19; refine (keep_any _ _).go.mono ?_; rintro e w' ⟨rfl, x, rfl⟩) | (go_at_call 20; refine (rkeep_any _ _).go.mono ?_; rintro e w' ⟨rfl, x, rfl⟩) | (go_at_call 14; refine (awake_any _).go.mono ?_; rintro e w' ⟨rfl, x, rfl⟩))
      go_ret
      exact ⟨rfl, (by repeat' (first | (with_reducible exact Below.refl _ _) | (with_reducible exact Nat.le_refl _) | (with_reducible refine Below.alloc ?_ ?_ _) | (with_reducible refine below_ext _ ?_ ?_) | (with_reducible refine Below.drew ?_) | (with_reducible refine Below.setCell ?_ ?_ _) | (with_reducible refine le_alloc ?_) | (with_reducible refine Ext.le_size _ ?_) | (with_reducible refine le_drew ?_) | (with_reducible refine le_setCell ?_)))⟩
  · have h2 := hx h1
    clear hx
    go_enter Try.func7, Try.ntmps7
    go_wp2_with (first | (go_at_call 17; refine (buffer_any _ _).go.mono ?_; rintro e w' ⟨rfl, x, rfl⟩) | (go_at_call 18; refine (rbuffer_any _ _).go.mono ?_; rintro e w' ⟨rfl, x, rfl⟩) | (go_at_call 19; refine (keep_any _ _).go.mono ?_; rintro e w' ⟨rfl, x, rfl⟩) | (go_at_call 20; refine (rkeep_any _ _).go.mono ?_; rintro e w' ⟨rfl, x, rfl⟩) | (go_at_call 14; refine (awake_any _).go.mono ?_; rintro e w' ⟨rfl, x, rfl⟩))
    go_ret
    exact ⟨rfl, (by repeat' (first | (with_reducible exact Below.refl _ _) | (with_reducible exact Nat.le_refl _) | (with_reducible refine Below.alloc ?_ ?_ _) | (with_reducible refine below_ext _ ?_ ?_) | (with_reducible refine Below.drew ?_) | (with_reducible refine Below.setCell ?_ ?_ _) | (with_reducible refine le_alloc ?_) | (with_reducible refine Ext.le_size _ ?_) | (with_reducible refine le_drew ?_) | (with_reducible refine le_setCell ?_)))⟩
theorem access_law (a k p c o e : Int) (v : Value) (s : Bool) (w : World) : Gives Try.prog 3 #[.int .i64 a, ob k p c o e v, .bool s] w (.bool true) := by
  unfold Gives
  go_enter Try.func3, Try.ntmps3
  go_wp2_with (first | (go_at_call 8; refine (virtual_any _ _ _ _ _ _ _ _).go.mono ?_; rintro e w' ⟨rfl, x, rfl⟩) | (go_at_call 9; refine (rvirtual_any _ _ _ _ _ _ _ _).go.mono ?_; rintro e w' ⟨rfl, x, rfl⟩))
  refine wp_region_ext (by kernel_rfl) (by kernel_rfl) ?_
  repeat (go_big_quiet_step (first | (go_at_call 10; refine (access_any _ _ _ _ _ _ _ _).at) | (go_at_call 11; refine (raccess_any _ _ _ _ _ _ _ _).at) | (go_at_call 12; refine (cast_any _ _ _ _ _ _ _ _ _).at) | (go_at_call 13; refine (rcast_any _ _ _ _ _ _ _ _ _).at) | (go_at_call 14; refine (awake_any _).at)))
  refine wpQuiet_nil ?_
  intro x
  go_wp2
  go_ret
  exact ⟨rfl, (by repeat' (first | (with_reducible exact Below.refl _ _) | (with_reducible exact Nat.le_refl _) | (with_reducible refine Below.alloc ?_ ?_ _) | (with_reducible refine below_ext _ ?_ ?_) | (with_reducible refine Below.drew ?_) | (with_reducible refine Below.setCell ?_ ?_ _) | (with_reducible refine le_alloc ?_) | (with_reducible refine Ext.le_size _ ?_) | (with_reducible refine le_drew ?_) | (with_reducible refine le_setCell ?_)))⟩
theorem invoke_law (a k p c o e : Int) (v : Value) (s : Bool) (w : World) : Gives Try.prog 4 #[.int .i64 a, ob k p c o e v, .bool s] w (.bool true) := by
  unfold Gives
  go_enter Try.func4, Try.ntmps4
  go_wp2_with (first | (go_at_call 15; refine (invoke_any _ _ _ _ _ _ _ _ _).go.mono ?_; rintro e w' ⟨rfl, x, rfl⟩) | (go_at_call 16; refine (rinvoke_any _ _ _ _ _ _ _ _ _).go.mono ?_; rintro e w' ⟨rfl, x, rfl⟩) | (go_at_call 14; refine (awake_any _).go.mono ?_; rintro e w' ⟨rfl, x, rfl⟩))
  go_ret
  exact ⟨rfl, (by repeat' (first | (with_reducible exact Below.refl _ _) | (with_reducible exact Nat.le_refl _) | (with_reducible refine Below.alloc ?_ ?_ _) | (with_reducible refine below_ext _ ?_ ?_) | (with_reducible refine Below.drew ?_) | (with_reducible refine Below.setCell ?_ ?_ _) | (with_reducible refine le_alloc ?_) | (with_reducible refine Ext.le_size _ ?_) | (with_reducible refine le_drew ?_) | (with_reducible refine le_setCell ?_)))⟩
set_option maxHeartbeats 8000000 in
theorem rules_law (a k p c o e : Int) (v : Value) (s : Bool) (w : World) : Gives Try.prog 5 #[.int .i64 a, ob k p c o e v, .bool s] w (.bool true) := by
  unfold Gives
  have e0 : num false k o = 0 := rfl
  have e1 : flg false k = false := rfl
  have f1 : acc a o = true → (a != 0) = true → (a != o) = false := by intro h; unfold acc at h; grind
  have f2 : cst a o false = acc a o := rfl
  have f3 : acc a o = true → cst a o true = true := by intro h; have := acc_shr h; unfold cst shr; grind
  cases h1 : (k == 1)
  · have e2 : num true k o = 0 := by unfold num; rw [h1]; rfl
    have e3 : flg true k = false := by unfold flg; rw [h1]; rfl
    clear h1
    cases h2 : acc a o <;> cases h3 : (a != 0) <;> cases h4 : (a != o) <;> cases s <;> cases h5 : cst a o true <;> cases h6 : cst a o false
    all_goals first
      | (exfalso; grind)
      | clear f1 f2 f3
        go_enter Try.func5, Try.ntmps5
        go_wp2_with (first | (go_at_call 8; refine (virtual_any _ _ _ _ _ _ _ _).go.mono ?_; rintro e w' ⟨rfl, x, rfl⟩) | (go_at_call 15; refine (invoke_any _ _ _ _ _ _ _ _ _).go.mono ?_; rintro e w' ⟨rfl, x, rfl⟩) | (go_at_call 10; refine (access_any _ _ _ _ _ _ _ _).go.mono ?_; rintro e w' ⟨rfl, x, rfl⟩) | (go_at_call 12; refine (cast_any _ _ _ _ _ _ _ _ _).go.mono ?_; rintro e w' ⟨rfl, x, rfl⟩) | (go_at_call 14; refine (awake_any _).go.mono ?_; rintro e w' ⟨rfl, x, rfl⟩))
        go_ret
        exact ⟨rfl, (by repeat' (first | (with_reducible exact Below.refl _ _) | (with_reducible exact Nat.le_refl _) | (with_reducible refine Below.alloc ?_ ?_ _) | (with_reducible refine below_ext _ ?_ ?_) | (with_reducible refine Below.drew ?_) | (with_reducible refine Below.setCell ?_ ?_ _) | (with_reducible refine le_alloc ?_) | (with_reducible refine Ext.le_size _ ?_) | (with_reducible refine le_drew ?_) | (with_reducible refine le_setCell ?_)))⟩
  · have e2 : num true k o = o := by unfold num; rw [h1]; rfl
    have e3 : flg true k = true := by unfold flg; rw [h1]; rfl
    clear h1
    cases h2 : acc a o <;> cases h3 : (a != 0) <;> cases h4 : (a != o) <;> cases s <;> cases h5 : cst a o true <;> cases h6 : cst a o false
    all_goals first
      | (exfalso; grind)
      | clear f1 f2 f3
        go_enter Try.func5, Try.ntmps5
        go_wp2_with (first | (go_at_call 8; refine (virtual_any _ _ _ _ _ _ _ _).go.mono ?_; rintro e w' ⟨rfl, x, rfl⟩) | (go_at_call 15; refine (invoke_any _ _ _ _ _ _ _ _ _).go.mono ?_; rintro e w' ⟨rfl, x, rfl⟩) | (go_at_call 10; refine (access_any _ _ _ _ _ _ _ _).go.mono ?_; rintro e w' ⟨rfl, x, rfl⟩) | (go_at_call 12; refine (cast_any _ _ _ _ _ _ _ _ _).go.mono ?_; rintro e w' ⟨rfl, x, rfl⟩) | (go_at_call 14; refine (awake_any _).go.mono ?_; rintro e w' ⟨rfl, x, rfl⟩))
        go_ret
        exact ⟨rfl, (by repeat' (first | (with_reducible exact Below.refl _ _) | (with_reducible exact Nat.le_refl _) | (with_reducible refine Below.alloc ?_ ?_ _) | (with_reducible refine below_ext _ ?_ ?_) | (with_reducible refine Below.drew ?_) | (with_reducible refine Below.setCell ?_ ?_ _) | (with_reducible refine le_alloc ?_) | (with_reducible refine Ext.le_size _ ?_) | (with_reducible refine le_drew ?_) | (with_reducible refine le_setCell ?_)))⟩
theorem values_law (a k p c o e k' p' c' o' e' : Int) (v v' : Value) (w : World) : Gives Try.prog 6 #[.int .i64 a, ob k p c o e v, ob k' p' c' o' e' v'] w (.bool true) := by
  unfold Gives
  go_enter Try.func6, Try.ntmps6
  go_wp2
  refine wp_loop_rounds 3 ?_
  rw [rounds_succ]
  go_wp2_with (first | (go_at_call 15; refine (invoke_any _ _ _ _ _ _ _ _ _).go.mono ?_; rintro e w' ⟨rfl, x, rfl⟩))
  refine wp_region_ext (by kernel_rfl) (by kernel_rfl) ?_
  repeat (go_big_quiet_step (first | (go_at_call 12; refine (cast_any _ _ _ _ _ _ _ _ _).at)))
  refine wpQuiet_nil ?_
  intro x
  go_wp2
  rw [rounds_succ]
  go_wp2_with (first | (go_at_call 15; refine (invoke_any _ _ _ _ _ _ _ _ _).go.mono ?_; rintro e w' ⟨rfl, x, rfl⟩))
  refine wp_region_ext (by kernel_rfl) (by kernel_rfl) ?_
  repeat (go_big_quiet_step (first | (go_at_call 12; refine (cast_any _ _ _ _ _ _ _ _ _).at)))
  refine wpQuiet_nil ?_
  intro x
  go_wp2
  rw [rounds_succ]
  go_wp2_with (first | (go_at_call 8; refine (virtual_any _ _ _ _ _ _ _ _).go.mono ?_; rintro e w' ⟨rfl, x, rfl⟩))
  refine wp_region_ext (by kernel_rfl) (by kernel_rfl) ?_
  repeat (go_big_quiet_step (first | (go_at_call 10; refine (access_any _ _ _ _ _ _ _ _).at) | (go_at_call 14; refine (awake_any _).at)))
  refine wpQuiet_nil ?_
  intro x
  go_wp2
  go_ret
  exact ⟨rfl, (by repeat' (first | (with_reducible exact Below.refl _ _) | (with_reducible exact Nat.le_refl _) | (with_reducible refine Below.alloc ?_ ?_ _) | (with_reducible refine below_ext _ ?_ ?_) | (with_reducible refine Below.drew ?_) | (with_reducible refine Below.setCell ?_ ?_ _) | (with_reducible refine le_alloc ?_) | (with_reducible refine Ext.le_size _ ?_) | (with_reducible refine le_drew ?_) | (with_reducible refine le_setCell ?_)))⟩
end Go.Proofs.Ytkjjfnpocjppcaa
