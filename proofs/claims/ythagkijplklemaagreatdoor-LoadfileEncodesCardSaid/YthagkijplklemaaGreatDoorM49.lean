/- The reference's checks of an instruction; of references and types. The reference's checks: lists of types, imports. The reference's checks: the virtual methods and the implementations of a class. The reference's checks: the implementations of a class. -/
import Derived.Test.YthagkijplklemaaGreatDoorM08
import Derived.Test.YthagkijplklemaaGreatDoorM09
import Derived.BigGuardPart
import Derived.Test.YthagkijplklemaaGreatDoorM39
import Derived.Test.YthagkijplklemaaGreatDoorM10
section
namespace Go.Proofs.YthagkijplklemaaGreatDoor
open Go.ChangeShapes Go.WideShapes Go.ChangeAt Go.RowKit Go.Sc
def formsV (op : Int) : Value := .tuple #[.int .i64 (frm op).1, .int .i64 (frm op).2.1, .int .i64 (frm op).2.2]
theorem formsV_ret {op a b c : Int} (h : frm op = (a, b, c)) : Ending.returned (.tuple #[.int .i64 a, .int .i64 b, .int .i64 c]) = .returned (formsV op) := by unfold formsV; rw [h]
set_option maxHeartbeats 1000000 in
theorem forms_hid (op : Int) (w : World) : Gives Tryz.prog 176 #[.int .i64 op] w (formsV op) := by
  unfold Gives
  go_enter Tryz.func176, Tryz.ntmps176
  go_wp2
  all_goals first
    | (exfalso; omega)
    | (go_returns; exact ⟨formsV_ret (by unfold frm; grind), (by with_reducible repeat' (first | exact Below.refl _ _ | exact Nat.le_refl _ | refine Below.alloc ?_ ?_ _ | refine below_ext _ ?_ ?_ | refine Below.drew ?_ | refine Below.setCell ?_ ?_ _ | refine le_alloc ?_ | refine Ext.le_size _ ?_ | refine le_drew ?_ | refine le_setCell ?_))⟩)
theorem forms_any (op : Int) (w : World) : Gives Tryz.prog 176 #[.int .i64 op] w (.tuple #[.int .i64 (frm op).1, .int .i64 (frm op).2.1, .int .i64 (frm op).2.2]) := forms_hid op w
set_option maxHeartbeats 1000000 in
theorem rlimits_hid (f g : Int) (w : World) (h5 : ¬ f = 5) : Gives Tryz.prog 215 #[.int .i64 f, .int .i64 g] w (limV f g) := by
  unfold Gives
  go_enter Tryz.func215, Tryz.ntmps215
  go_wp2
  all_goals first
    | (exfalso; omega)
    | (go_returns
       exact ⟨limV_ret (by unfold lim; grind), (by with_reducible repeat' (first | exact Below.refl _ _ | exact Nat.le_refl _ | refine Below.alloc ?_ ?_ _ | refine below_ext _ ?_ ?_ | refine Below.drew ?_ | refine Below.setCell ?_ ?_ _ | refine le_alloc ?_ | refine Ext.le_size _ ?_ | refine le_drew ?_ | refine le_setCell ?_))⟩)
theorem rlimits_any (f g : Int) (w : World) (h5 : ¬ f = 5) : Gives Tryz.prog 215 #[.int .i64 f, .int .i64 g] w (.tuple #[.int .i64 (lim f g).1, .int .i64 (lim f g).2]) := rlimits_hid f g w h5
set_option maxHeartbeats 1000000 in
theorem roperand_any (f n g : Int) (w : World) : Gives Tryz.prog 177 #[.int .i64 f, .int .i64 n, .int .i64 g] w (.int .i64 (opE f n g)) := by
  obtain ⟨L, hL⟩ : ∃ L, L = (lim f g).1 := ⟨_, rfl⟩
  obtain ⟨M, hM⟩ : ∃ L, L = (lim f g).2 := ⟨_, rfl⟩
  have h5 : Hid (f = 5 → L = 0 ∧ M = 4) := by
    have : f = 5 → L = 0 ∧ M = 4 := by rintro rfl; rw [hL, hM]; exact ⟨rfl, rfl⟩
    exact this
  have hE : Hid (opE f n g = if f = 0 then (if n = 0 then 0 else 4) else if (n < L ∨ M < n) ∧ ¬ (f = 5 ∧ n = 255) then 2 else 0) := by
    have : opE f n g = if f = 0 then (if n = 0 then 0 else 4) else if (n < L ∨ M < n) ∧ ¬ (f = 5 ∧ n = 255) then 2 else 0 := by rw [hL, hM]; rfl
    exact this
  have hC : Hid (∀ W : World, ¬ f = 5 → Gives Tryz.prog 215 #[.int .i64 f, .int .i64 g] W (.tuple #[.int .i64 L, .int .i64 M])) := fun W h => by rw [hL, hM]; exact rlimits_any f g W h
  clear hL hM
  by_cases hf : f = 5
  · obtain ⟨rfl, rfl⟩ := h5.out hf
    subst hf
    unfold Gives
    go_enter Tryz.func177, Tryz.ntmps177
    go_wp2_with fail
    all_goals first
      | (exfalso; omega)
      | (go_ret; exact ⟨ret_int (by rw [hE.out]; grind), (by with_reducible repeat' (first | exact Below.refl _ _ | exact Nat.le_refl _ | refine Below.alloc ?_ ?_ _ | refine below_ext _ ?_ ?_ | refine Below.drew ?_ | refine Below.setCell ?_ ?_ _ | refine le_alloc ?_ | refine Ext.le_size _ ?_ | refine le_drew ?_ | refine le_setCell ?_))⟩)
  · unfold Gives
    go_enter Tryz.func177, Tryz.ntmps177
    go_wp2_with (first | (go_at_call 215; refine (hC.out _ hf).go.mono ?_; rintro e w' ⟨rfl, xw, rfl⟩) | fail)
    all_goals first
      | (exfalso; omega)
      | (go_ret; exact ⟨ret_int (by rw [hE.out]; grind), (by with_reducible repeat' (first | exact Below.refl _ _ | exact Nat.le_refl _ | refine Below.alloc ?_ ?_ _ | refine below_ext _ ?_ ?_ | refine Below.drew ?_ | refine Below.setCell ?_ ?_ _ | refine le_alloc ?_ | refine Ext.le_size _ ?_ | refine le_drew ?_ | refine le_setCell ?_))⟩)
set_option maxHeartbeats 1000000 in
theorem rcheck27_any (i : In) (w : World) : Gives Tryz.prog 113 #[i.v] w (.int .i64 (insE i)) := by
  obtain ⟨A, hA⟩ : ∃ A, A = (frm i.op).1 := ⟨_, rfl⟩
  obtain ⟨B, hB⟩ : ∃ A, A = (frm i.op).2.1 := ⟨_, rfl⟩
  obtain ⟨C, hC⟩ : ∃ A, A = (frm i.op).2.2 := ⟨_, rfl⟩
  have hA6 : A ≠ 6 := by
    rw [hA]
    unfold frm
    repeat' split
    all_goals simp
  have h0 : opE A i.a 0 = opE A i.a i.a := by
    unfold opE lim
    simp only [hA6, if_false]
  obtain ⟨e1, h1⟩ : ∃ e, e = opE A i.a i.a := ⟨_, rfl⟩
  obtain ⟨e2, h2⟩ : ∃ e, e = opE B i.b i.a := ⟨_, rfl⟩
  obtain ⟨e3, h3⟩ : ∃ e, e = opE C i.c i.a := ⟨_, rfl⟩
  have hF : Hid (∀ W : World, Gives Tryz.prog 176 #[.int .i64 i.op] W (.tuple #[.int .i64 A, .int .i64 B, .int .i64 C])) := fun W => by rw [hA, hB, hC]; exact forms_any i.op W
  have hE : Hid (insE i = if i.op < 0 ∨ 54 ≤ i.op then 4 else if e1 = 0 then (if e2 = 0 then e3 else e2) else e1) := by
    have : insE i = if i.op < 0 ∨ 54 ≤ i.op then 4 else if e1 = 0 then (if e2 = 0 then e3 else e2) else e1 := by
      unfold insE
      rw [← hA, ← hB, ← hC, ← h1, ← h2, ← h3]
    exact this
  have g1 : Hid (∀ W : World, Gives Tryz.prog 177 #[.int .i64 A, .int .i64 i.a, .int .i64 0] W (.int .i64 e1)) := fun W => by rw [h1, ← h0]; exact roperand_any A i.a 0 W
  have g2 : Hid (∀ W : World, Gives Tryz.prog 177 #[.int .i64 B, .int .i64 i.b, .int .i64 i.a] W (.int .i64 e2)) := fun W => by rw [h2]; exact roperand_any B i.b i.a W
  have g3 : Hid (∀ W : World, Gives Tryz.prog 177 #[.int .i64 C, .int .i64 i.c, .int .i64 i.a] W (.int .i64 e3)) := fun W => by rw [h3]; exact roperand_any C i.c i.a W
  clear hA hB hC hA6 h0 h1 h2 h3
  unfold Gives
  go_enter Tryz.func113, Tryz.ntmps113
  go_wp2_with (first | (go_at_call 176; refine (hF.out _).go.mono ?_; rintro e w' ⟨rfl, xw, rfl⟩) | (go_at_call 177; first | ((with_reducible refine (g1.out _).go.mono ?_); rintro e w' ⟨rfl, xw, rfl⟩) | ((with_reducible refine (g2.out _).go.mono ?_); rintro e w' ⟨rfl, xw, rfl⟩) | ((with_reducible refine (g3.out _).go.mono ?_); rintro e w' ⟨rfl, xw, rfl⟩)) | fail)
  all_goals first
    | (exfalso; omega)
    | (go_ret; exact ⟨ret_int (by rw [hE.out]; grind), (by with_reducible repeat' (first | exact Below.refl _ _ | exact Nat.le_refl _ | refine Below.alloc ?_ ?_ _ | refine below_ext _ ?_ ?_ | refine Below.drew ?_ | refine Below.setCell ?_ ?_ _ | refine le_alloc ?_ | refine Ext.le_size _ ?_ | refine le_drew ?_ | refine le_setCell ?_))⟩)
theorem gen_v {P : Program} {c : Code} {Q : Exit → Act → World → Prop} {a : Act} {w : World} (p : World → Prop) (hp : p w) (h : ∀ V, p V → c.wp P Q a V) : c.wp P Q a w := h w hp
theorem fe_some {α : Type} {F : Nat → α → Int} {xs : List α} {k : Nat} {y : α} {c : Int} (hz : ∀ (j : Nat) (x : α), j < k → xs[j]? = some x → F j x = 0) (hy : xs[k]? = some y) (h : F k y = c) (hc : c ≠ 0) : c = firstE F 0 xs := by
  have := firstE_some (F := F) (n := 0) (k := k) (y := y) (by simpa using hz) hy (by rw [Nat.zero_add, h]; exact hc)
  rw [Nat.zero_add, h] at this
  exact this.symm
theorem fe_none {α : Type} {F : Nat → α → Int} {xs : List α} (hz : ∀ (j : Nat) (x : α), xs[j]? = some x → F j x = 0) : 0 = firstE F 0 xs :=
  (firstE_none (by simpa using hz)).symm
theorem any_take_hit {α : Type} {f : α → Bool} {xs : List α} {k j : Nat} {y : α} (hj : j < k) (hy : xs[j]? = some y) (h : f y = true) : (xs.take k).any f = true := by
  rw [List.any_eq_true]
  refine ⟨y, List.mem_of_getElem? (i := j) (by rw [List.getElem?_take, if_pos hj]; exact hy), h⟩
theorem any_take_miss {α : Type} {f : α → Bool} {xs : List α} {k : Nat} (h : ∀ (j : Nat) (y : α), j < k → xs[j]? = some y → f y = false) : (xs.take k).any f = false := by
  rw [List.any_eq_false]
  intro y hy
  obtain ⟨j, hj⟩ := List.getElem?_of_mem hy
  rw [List.getElem?_take] at hj
  split at hj
  · rename_i h1
    rw [h j y h1 hj]; simp
  · cases hj
theorem all_hit {α : Type} {f : α → Bool} {xs : List α} {k : Nat} {y : α} (hy : xs[k]? = some y) (h : f y = false) : false = xs.all f := by
  symm
  rw [List.all_eq_false]
  exact ⟨y, List.mem_of_getElem? hy, by simp [h]⟩
theorem all_end {α : Type} {f : α → Bool} {xs : List α} (h : ∀ (j : Nat) (y : α), xs[j]? = some y → f y = true) : true = xs.all f := by
  symm
  rw [List.all_eq_true]
  intro y hy
  obtain ⟨j, hj⟩ := List.getElem?_of_mem hy
  exact h j y hj
theorem earlier_any (r : Rf) (n : Int) (w : World) : Gives Tryz.prog 62 #[r.v, .int .i64 n] w (.bool (!decide (r.p = 0) || decide (r.c < n))) := by
  unfold Gives
  go_enter Tryz.func62, Tryz.ntmps62
  go_wp2_with fail
  all_goals
    go_ret
    exact ⟨ret_bool (by grind), (by with_reducible repeat' (first | exact Below.refl _ _ | exact Nat.le_refl _ | refine Below.alloc ?_ ?_ _ | refine below_ext _ ?_ ?_ | refine Below.drew ?_ | refine Below.setCell ?_ ?_ _ | refine le_alloc ?_ | refine Ext.le_size _ ?_ | refine le_drew ?_ | refine le_setCell ?_))⟩
theorem rargs_any (m : Me) (w : World) (hl : m.params.xs.length ≤ 9223372036854775806) : Gives Tryz.prog 112 #[m.v] w (.int .i64 ((m.params.xs.length : Int) + (bif m.static then 0 else 1))) := by
  obtain ⟨s, ab, c, ⟨pa, pc, ps⟩, r, l, k, co, hs⟩ := m
  simp only at hl
  show Gives _ _ #[.agg #[.bool s, .bool ab, .int .i64 c, .slice pa ps.length pc, .int .i64 r.k, .int .i64 r.c.p, .int .i64 r.c.c, .int .i64 l, .int .i64 k, .slice co.a co.xs.length co.c, .slice hs.a hs.xs.length hs.c]] _ _
  unfold Gives
  have h1 : (ps.length : Int) ≤ 9223372036854775806 := by omega
  cases s
  all_goals
    go_enter Tryz.func112, Tryz.ntmps112
    go_wp2_with fail
    go_ret
    exact ⟨ret_int (by simp), (by with_reducible repeat' (first | exact Below.refl _ _ | exact Nat.le_refl _ | refine Below.alloc ?_ ?_ _ | refine below_ext _ ?_ ?_ | refine Below.drew ?_ | refine Below.setCell ?_ ?_ _ | refine le_alloc ?_ | refine Ext.le_size _ ?_ | refine le_drew ?_ | refine le_setCell ?_))⟩
theorem frm46 (op : Int) (h : op = 46) : frm op = (10, 11, 0) := by subst h; rfl
theorem insE_46 {i : In} (h : insE i = 0) (ho : i.op = 46) : 0 ≤ i.b ∧ i.b < 64 := by
  unfold insE at h
  rw [frm46 _ ho] at h
  rw [if_neg (by omega)] at h
  simp only at h
  split at h
  · split at h
    · rename_i h1 h2
      simp only [opE, lim] at h2
      simp at h2
      omega
    · omega
  · omega
set_option maxHeartbeats 2000000 in
theorem rexists_any (p : Pk) (m : Me) (i : In) (w : World) (hi : insE i = 0) : Gives Tryz.prog 114 #[p.v, m.v, i.v] w (.bool (named p m.code.xs.length i)) := by
  have h46 := hid (insE_46 hi)
  obtain ⟨o, a, b, c⟩ := i
  simp only at h46
  obtain ⟨B, hB⟩ : ∃ B, B = named p m.code.xs.length ⟨o, a, b, c⟩ := ⟨_, rfl⟩
  obtain ⟨r1, h1⟩ : ∃ r, r = inRange p.imports.xs.length p.classes.xs.length ⟨a, b⟩ := ⟨_, rfl⟩
  obtain ⟨r2, h2⟩ : ∃ r, r = below a p.statics.xs.length := ⟨_, rfl⟩
  obtain ⟨r3, h3⟩ : ∃ r, r = below b p.methods.xs.length := ⟨_, rfl⟩
  obtain ⟨r4, h4⟩ : ∃ r, r = below b 64 := ⟨_, rfl⟩
  obtain ⟨r5, h5⟩ : ∃ r, r = below a m.code.xs.length := ⟨_, rfl⟩
  have h64 : Hid (o = 46 → r4 = true) := by
    have : o = 46 → r4 = true := fun h => by rw [h4]; unfold below; have := h46.out h; simp; omega
    exact this
  have hE : Hid (B = if 21 ≤ o ∧ o ≤ 32 then r5 else if o = 44 ∨ o = 45 then r2 else if o = 46 then (a == 0 && r3) || (decide (1 ≤ a) && decide (a ≤ p.imports.xs.length)) else if o = 33 ∨ o = 42 ∨ o = 43 ∨ o = 47 ∨ o = 48 ∨ o = 51 ∨ o = 52 then r1 else true) := by
    have : B = if 21 ≤ o ∧ o ≤ 32 then r5 else if o = 44 ∨ o = 45 then r2 else if o = 46 then (a == 0 && r3) || (decide (1 ≤ a) && decide (a ≤ p.imports.xs.length)) else if o = 33 ∨ o = 42 ∨ o = 43 ∨ o = 47 ∨ o = 48 ∨ o = 51 ∨ o = 52 then r1 else true := by
      rw [hB, h1, h2, h3, h5]; rfl
    exact this
  have g1 : Hid (∀ W : World, Gives Tryz.prog 61 #[p.v, .agg #[.int .i64 a, .int .i64 b]] W (.bool r1)) := fun W => by rw [h1]; exact rInRange_any p ⟨a, b⟩ W
  have g2 : Hid (∀ W : World, Gives Tryz.prog 65 #[.int .i64 a, .int .i64 p.statics.xs.length] W (.bool r2)) := fun W => by rw [h2]; exact rbelow_any _ _ W
  have g3 : Hid (∀ W : World, Gives Tryz.prog 65 #[.int .i64 b, .int .i64 p.methods.xs.length] W (.bool r3)) := fun W => by rw [h3]; exact rbelow_any _ _ W
  have g4 : Hid (∀ W : World, Gives Tryz.prog 65 #[.int .i64 b, .int .i64 64] W (.bool r4)) := fun W => by rw [h4]; exact rbelow_any _ _ W
  have g5 : Hid (∀ W : World, Gives Tryz.prog 65 #[.int .i64 a, .int .i64 m.code.xs.length] W (.bool r5)) := fun W => by rw [h5]; exact rbelow_any _ _ W
  rw [← hB]
  clear hB h1 h2 h3 h4 h5 h46 hi
  show Gives _ _ #[p.v, m.v, .agg #[.int .i64 o, .int .i64 a, .int .i64 b, .int .i64 c]] _ _
  unfold Gives
  go_enter Tryz.func114, Tryz.ntmps114
  go_wp2_with (first | (go_at_call 61; (with_reducible refine (g1.out _).go.mono ?_); rintro e w' ⟨rfl, xw, rfl⟩) | (go_at_call 65; first | ((with_reducible refine (g2.out _).go.mono ?_); rintro e w' ⟨rfl, xw, rfl⟩) | ((with_reducible refine (g3.out _).go.mono ?_); rintro e w' ⟨rfl, xw, rfl⟩) | ((with_reducible refine (g4.out _).go.mono ?_); rintro e w' ⟨rfl, xw, rfl⟩) | ((with_reducible refine (g5.out _).go.mono ?_); rintro e w' ⟨rfl, xw, rfl⟩)) | fail)
  all_goals first
    | (exfalso; omega)
    | (go_ret; exact ⟨ret_bool (by first | (have e46 : o = 46 := (by simpa using ‹(o == 46) = true›); have ea : a = 0 := (by simpa using ‹(a == 0) = true›); rw [hE.out]; simp [e46, ea]; done) | (have := h64.out; rw [hE.out]; grind)), (by with_reducible repeat' (first | exact Below.refl _ _ | exact Nat.le_refl _ | refine Below.alloc ?_ ?_ _ | refine below_ext _ ?_ ?_ | refine Below.drew ?_ | refine Below.setCell ?_ ?_ _ | refine le_alloc ?_ | refine Ext.le_size _ ?_ | refine le_drew ?_ | refine le_setCell ?_))⟩)
end Go.Proofs.YthagkijplklemaaGreatDoor
end

section
namespace Go.Proofs.YthagkijplklemaaGreatDoor
open Go.ChangeShapes Go.WideShapes Go.ChangeAt Go.RowKit Go.Sc
set_option maxRecDepth 20000 in
set_option maxHeartbeats 1000000 in
theorem rusableL_any (p : Pk) (s : Sl Ty) (w : World) (hs : Hid (s.Ok eTy 3 w)) : Gives Tryz.prog 33 #[p.v, s.v] w (.bool (allUsable p s.xs)) := by
  obtain ⟨f, hf⟩ : ∃ f, f = usable p.imports.xs.length p.classes.xs.length := ⟨_, rfl⟩
  have hU : Hid (∀ (t : Ty) (W : World), Gives Tryz.prog 66 #[p.v, t.v] W (.bool (f t))) := fun t W => by rw [hf]; exact rUsable_any p t W
  have hE : allUsable p s.xs = s.xs.all f := by rw [hf]; rfl
  rw [hE]
  clear hf hE
  obtain ⟨a, c, xs⟩ := s
  have hle := hs.out.le
  have hmx := hs.out.max
  simp only at hle hmx
  show Gives _ _ #[p.v, .slice a xs.length c] _ _
  unfold Gives
  go_enter Tryz.func33, Tryz.ntmps33
  go_wp2_with fail
  refine gen_v (fun V => Below w.heap.size w V ∧ w.heap.size < V.heap.size ∧ (∀ i v, (#[.slice p.aid.a p.aid.xs.length p.aid.c, .int .i64 p.major, .int .i64 p.minor, .slice p.imports.a p.imports.xs.length p.imports.c, .slice p.classes.a p.classes.xs.length p.classes.c, .slice p.methods.a p.methods.xs.length p.methods.c, .slice p.statics.a p.statics.xs.length p.statics.c, .slice p.applets.a p.applets.xs.length p.applets.c] : Array Value)[i]? = some v → V.cell? ⟨w.heap.size, i, none⟩ = some v)) ⟨(by with_reducible repeat' (first | exact Below.refl _ _ | exact Nat.le_refl _ | refine Below.alloc ?_ ?_ _ | refine below_ext _ ?_ ?_ | refine Below.drew ?_ | refine Below.setCell ?_ ?_ _ | refine le_alloc ?_ | refine Ext.le_size _ ?_ | refine le_drew ?_ | refine le_setCell ?_)), InW.lt, fun i v h => by rw [World.cell?_alloc_new]; exact h⟩ ?_
  rintro V ⟨hwV, hV, hc0⟩
  have HW := hid hwV
  have k0 := hc0 0 _ rfl
  have k1 := hc0 1 _ rfl
  have k2 := hc0 2 _ rfl
  have k3 := hc0 3 _ rfl
  have k4 := hc0 4 _ rfl
  have k5 := hc0 5 _ rfl
  have k6 := hc0 6 _ rfl
  have k7 := hc0 7 _ rfl
  have HS := hid (hs.out.mono hwV)
  haveI : InW w.heap.size V := ⟨hV⟩
  clear hc0 hwV hs
  go_loopw [5] (fun i wr => ∃ (k : Nat) (x : Ext V), k ≤ xs.length ∧ i = .int .i64 k ∧ Hid (∀ (j : Nat) (u : Ty), j < k → xs[j]? = some u → f u = true) ∧ wr = x.val) (fun i _ => xs.length - (intOf i).toNat)
  case atStart => exact ⟨0, ⟨V, Below.refl _ _⟩, Nat.zero_le _, rfl, hid (fun _ _ h => absurd h (by omega)), rfl⟩
  case round =>
    obtain ⟨k, x, hk, rfl, HZ, rfl⟩ := hrel
    by_cases hlt : k < xs.length
    · obtain ⟨y, hy⟩ := getElem?_of_lt hlt
      obtain ⟨hok, b, off, hba, hbl, hc⟩ := HS.out.at_ k y hy
      simp only at hba
      subst hba
      have h0 := hc 0 _ rfl; have h1 := hc 1 _ rfl; have h2 := hc 2 _ rfl; simp only [Nat.add_zero] at h0
      haveI : InW b V := ⟨hbl⟩
      have HY := hid hy
      have hM := hid (fun W => hU.out y W)
      obtain ⟨bM, ebM⟩ : ∃ bM, bM = f y := ⟨_, rfl⟩
      rw [← ebM] at hM
      have EM := hid ebM.symm
      clear ebM hc hok hy hbl
      have hk1 : (0 : Int) ≤ (k : Int) := by omega
      have hk2 : (k : Int) < (xs.length : Int) := by omega
      cases bM with
      | true =>
        go_wp2_with fail
        refine wp_region_ext (by kernel_rfl) (by kernel_rfl) ?_; (repeat (go_big_quiet_step ((go_at_call 66; refine (hM.out _).at)))); refine wpQuiet_nil ?_; intro xw
        go_wp2_with fail
        go_roundw
        case rel => exact ⟨k + 1, ⟨_, (by with_reducible repeat' (first | exact Below.refl _ _ | exact Nat.le_refl _ | refine Below.alloc ?_ ?_ _ | refine below_ext _ ?_ ?_ | refine Below.drew ?_ | refine Below.setCell ?_ ?_ _ | refine le_alloc ?_ | refine Ext.le_size _ ?_ | refine le_drew ?_ | refine le_setCell ?_))⟩, by omega, by go_num, hid (fun j u hj hu => by
            rcases Nat.lt_succ_iff_lt_or_eq.1 hj with h | rfl
            · exact HZ.out j u h hu
            · have h1 := HY.out.symm.trans hu; cases h1; exact EM.out), rfl⟩
        case measure => simp [intOf]; omega
      | false =>
        go_wp2_with fail
        refine wp_region_ext (by kernel_rfl) (by kernel_rfl) ?_; (repeat (go_big_quiet_step ((go_at_call 66; refine (hM.out _).at)))); refine wpQuiet_nil ?_; intro xw
        go_wp2_with fail
        go_ret
        exact ⟨ret_bool (all_hit HY.out EM.out), ((HW).out.trans (Below.mono (show Below V.heap.size V _ from (by (with_reducible repeat' (first | exact Hid.out (by assumption) | exact Below.refl _ _ | exact Nat.le_refl _ | refine Below.alloc ?_ ?_ _ | refine below_ext _ ?_ ?_ | refine Below.drew ?_ | refine Below.setCell ?_ ?_ _ | refine le_alloc ?_ | refine Ext.le_size _ ?_ | refine le_drew ?_ | refine le_setCell ?_)); (all_goals (first | omega | (simp; done) | (simp; omega))))) (by have := (HW).out.size; omega)))⟩
    · go_wp2_with fail
      go_ret
      exact ⟨ret_bool (all_end fun j u hu => HZ.out j u (by have := (List.getElem?_eq_some_iff.1 hu).1; omega) hu), ((HW).out.trans (Below.mono (show Below V.heap.size V _ from (by (with_reducible repeat' (first | exact Hid.out (by assumption) | exact Below.refl _ _ | exact Nat.le_refl _ | refine Below.alloc ?_ ?_ _ | refine below_ext _ ?_ ?_ | refine Below.drew ?_ | refine Below.setCell ?_ ?_ _ | refine le_alloc ?_ | refine Ext.le_size _ ?_ | refine le_drew ?_ | refine le_setCell ?_)); (all_goals (first | omega | (simp; done) | (simp; omega))))) (by have := (HW).out.size; omega)))⟩
set_option maxRecDepth 20000 in
set_option maxHeartbeats 4000000 in
theorem rimports_any (p : Pk) (w : World) (hp : Hid (p.Ok w)) : Gives Tryz.prog 30 #[p.v] w (.int .i64 (firstE (fun k x => impE p k x) 0 p.imports.xs)) := by
  obtain ⟨F, hF⟩ : ∃ F : Nat → Ip → Int, F = fun k x => impE p k x := ⟨_, rfl⟩
  have hE : ∀ k x, F k x = if isName x.aid.xs.length then (if isByte x.major && isByte x.minor then (if bEq x.aid.xs p.aid.xs || (p.imports.xs.take k).any (fun y => bEq x.aid.xs y.aid.xs) then 13 else 0) else 2) else 1 := by rw [hF]; intro k x; rfl
  rw [← hF]
  clear hF
  have ho1 := hp.out.aid
  have ho2 := hp.out.imports
  obtain ⟨aid, mj, mn, ⟨ia, ic, is⟩, cl, me, st, ap⟩ := p
  simp only at ho1 ho2 hE ⊢
  have HE := hid hE
  have hle := ho2.le
  have hmx := ho2.max
  simp only at hle hmx
  clear hp hE
  show Gives _ _ #[.agg #[.slice aid.a aid.xs.length aid.c, .int .i64 mj, .int .i64 mn, .slice ia is.length ic, .slice cl.a cl.xs.length cl.c, .slice me.a me.xs.length me.c, .slice st.a st.xs.length st.c, .slice ap.a ap.xs.length ap.c]] _ _
  unfold Gives
  go_enter Tryz.func30, Tryz.ntmps30
  go_wp2_with fail
  refine gen_v (fun V => Below w.heap.size w V ∧ w.heap.size < V.heap.size ∧ V.cell? ⟨w.heap.size, 0, none⟩ = some (.slice aid.a aid.xs.length aid.c) ∧ V.cell? ⟨w.heap.size, 3, none⟩ = some (.slice ia is.length ic)) ⟨(by with_reducible repeat' (first | exact Below.refl _ _ | exact Nat.le_refl _ | refine Below.alloc ?_ ?_ _ | refine below_ext _ ?_ ?_ | refine Below.drew ?_ | refine Below.setCell ?_ ?_ _ | refine le_alloc ?_ | refine Ext.le_size _ ?_ | refine le_drew ?_ | refine le_setCell ?_)), InW.lt, by simp, by simp⟩ ?_
  rintro V ⟨hwV, hV, k0, k3⟩
  have HW := hid hwV
  have HA := hid (ho1.mono hwV)
  have HI := hid (ho2.mono hwV)
  haveI : InW w.heap.size V := ⟨hV⟩
  clear hwV ho1 ho2
  go_loopw [3] (fun i wr => ∃ (k : Nat) (x : Ext V), k ≤ is.length ∧ i = .int .i64 k ∧ Hid (∀ (j : Nat) (u : Ip), j < k → is[j]? = some u → F j u = 0) ∧ wr = x.val) (fun i _ => is.length - (intOf i).toNat)
  case atStart => exact ⟨0, ⟨V, Below.refl _ _⟩, Nat.zero_le _, rfl, hid (fun _ _ h => absurd h (by omega)), rfl⟩
  case round =>
    obtain ⟨k, x, hk, rfl, HZ, rfl⟩ := hrel
    by_cases hlt : k < is.length
    · obtain ⟨y, hy⟩ := getElem?_of_lt hlt
      obtain ⟨hok, b, off, hba, hbl, hc⟩ := HI.out.at_ k y hy
      simp only at hba
      subst hba
      have HY := hid hy
      have HFk := HE.out k y
      obtain ⟨⟨ya, yc, ys⟩, y1, y2⟩ := y
      have h0 := hc 0 _ rfl; have h1 := hc 1 _ rfl; have h2 := hc 2 _ rfl; simp only [Nat.add_zero] at h0
      haveI : InW b V := ⟨hbl⟩
      have HO := hid hok.1
      simp only at h0 h1 h2 HFk HO
      obtain ⟨b1, e1⟩ : ∃ b, isName ys.length = !b := ⟨!isName ys.length, by simp⟩
      obtain ⟨b2, e2⟩ : ∃ b, isByte y1 = !b := ⟨!isByte y1, by simp⟩
      obtain ⟨b3, e3⟩ : ∃ b, isByte y2 = !b := ⟨!isByte y2, by simp⟩
      obtain ⟨b4, e4⟩ : ∃ b, b = bEq ys aid.xs := ⟨_, rfl⟩
      have g1 : Hid (∀ W : World, Gives Tryz.prog 28 #[.slice ya ys.length yc] W (.bool (!b1))) := fun W => by rw [← e1]; exact risName_any _ _ _ W
      have g2 : Hid (∀ W : World, Gives Tryz.prog 29 #[.int .i64 y1] W (.bool (!b2))) := fun W => by rw [← e2]; exact risByte_any _ W
      have g3 : Hid (∀ W : World, Gives Tryz.prog 29 #[.int .i64 y2] W (.bool (!b3))) := fun W => by rw [← e3]; exact risByte_any _ W
      have g4 : Hid (∀ W : World, Below V.heap.size V W → Gives Tryz.prog 16 #[.slice ya ys.length yc, .slice aid.a aid.xs.length aid.c] W (.bool b4)) := fun W h => by rw [e4]; exact rsame_any ⟨ya, yc, ys⟩ aid W (HO.out.mono h) (HA.out.mono h)
      rw [e1, e2, e3, ← e4] at HFk
      have HFK := hid HFk
      clear HFk e1 e2 e3 e4 hc hok hy
      have hk1 : (0 : Int) ≤ (k : Int) := by omega
      have hk2 : (k : Int) < (is.length : Int) := by omega
      go_wp2_with (first | (go_at_call 28; refine (g1.out _).go.mono ?_; rintro e w' ⟨rfl, xw, rfl⟩) | (go_at_call 29; first | ((with_reducible refine (g2.out _).go.mono ?_); rintro e w' ⟨rfl, xw, rfl⟩) | ((with_reducible refine (g3.out _).go.mono ?_); rintro e w' ⟨rfl, xw, rfl⟩)) | (go_at_call 16; refine (g4.out _ (by (with_reducible repeat' (first | exact Hid.out (by assumption) | exact Below.refl _ _ | exact Nat.le_refl _ | refine Below.alloc ?_ ?_ _ | refine below_ext _ ?_ ?_ | refine Below.drew ?_ | refine Below.setCell ?_ ?_ _ | refine le_alloc ?_ | refine Ext.le_size _ ?_ | refine le_drew ?_ | refine le_setCell ?_)); (all_goals (first | omega | (simp; done) | (simp; omega))))).go.mono ?_; rintro e w' ⟨rfl, xw, rfl⟩) | fail)
      all_goals try (go_ret; exact ⟨ret_int (fe_some HZ.out HY.out (by rw [HFK.out]; simp [*]; done) (by omega)), ((HW).out.trans (Below.mono (show Below V.heap.size V _ from (by (with_reducible repeat' (first | exact Hid.out (by assumption) | exact Below.refl _ _ | exact Nat.le_refl _ | refine Below.alloc ?_ ?_ _ | refine below_ext _ ?_ ?_ | refine Below.drew ?_ | refine Below.setCell ?_ ?_ _ | refine le_alloc ?_ | refine Ext.le_size _ ?_ | refine le_drew ?_ | refine le_setCell ?_)); (all_goals (first | omega | (simp; done) | (simp; omega))))) (by have := (HW).out.size; omega)))⟩; done)
      have t1 : b1 = false := by assumption
      have t2 : b2 = false := by assumption
      have t3 : b3 = false := by assumption
      have t4 : b4 = false := by assumption
      subst t1 t2 t3 t4
      simp only [Bool.not_false, Bool.and_self, if_true, Bool.false_or] at HFK
      refine gen_v (fun V2 => Below V.heap.size V V2 ∧ x.val.heap.size < V2.heap.size ∧ V2.cell? ⟨x.val.heap.size, 0, none⟩ = some (.slice ya ys.length yc)) ⟨(by (with_reducible repeat' (first | exact Hid.out (by assumption) | exact Below.refl _ _ | exact Nat.le_refl _ | refine Below.alloc ?_ ?_ _ | refine below_ext _ ?_ ?_ | refine Below.drew ?_ | refine Below.setCell ?_ ?_ _ | refine le_alloc ?_ | refine Ext.le_size _ ?_ | refine le_drew ?_ | refine le_setCell ?_)); (all_goals (first | omega | (simp; done) | (simp; omega)))), InW.lt, by simp [Ext.cell]⟩ ?_
      rintro V2 ⟨hV2, hxl, kx⟩
      have HV2 := hid hV2
      have hvs := hV2.size
      haveI : InW w.heap.size V2 := ⟨by omega⟩
      haveI : InW x.val.heap.size V2 := ⟨hxl⟩
      have k0' := (hV2.cell (p := ⟨w.heap.size, 0, none⟩) hV).trans k0
      have k3' := (hV2.cell (p := ⟨w.heap.size, 3, none⟩) hV).trans k3
      have hxs := x.size
      clear hV2 g1 g2 g3 g4 h0 h1 h2
      go_loopw [5] (fun i wr => ∃ (j : Nat) (z : Ext V2), j ≤ k ∧ i = .int .i64 j ∧ Hid (∀ (n : Nat) (u : Ip), n < j → is[n]? = some u → bEq ys u.aid.xs = false) ∧ wr = z.val) (fun i _ => k - (intOf i).toNat)
      case atStart => exact ⟨0, ⟨V2, Below.refl _ _⟩, Nat.zero_le _, rfl, hid (fun _ _ h => absurd h (by omega)), rfl⟩
      case round =>
        obtain ⟨j, z, hj, rfl, HZ2, rfl⟩ := hrel
        by_cases hjt : j < k
        · obtain ⟨u, hu⟩ := getElem?_of_lt (show j < is.length by omega)
          obtain ⟨huk, b', off', hba', hbl', hcu⟩ := HI.out.at_ j u hu
          cases hba'
          have HU := hid hu
          obtain ⟨⟨ua, uc, us⟩, u1, u2⟩ := u
          have g0 := hcu 0 _ rfl; have g1 := hcu 1 _ rfl; have g2 := hcu 2 _ rfl; simp only [Nat.add_zero] at g0
          have HUO := hid huk.1
          simp only at g0 g1 g2 HUO
          obtain ⟨bS, eS⟩ : ∃ bS, bS = bEq ys us := ⟨_, rfl⟩
          have gS : Hid (∀ W : World, Below V.heap.size V W → Gives Tryz.prog 16 #[.slice ya ys.length yc, .slice ua us.length uc] W (.bool bS)) := fun W h => by rw [eS]; exact rsame_any ⟨ya, yc, ys⟩ ⟨ua, uc, us⟩ W (HO.out.mono h) (HUO.out.mono h)
          have ES := hid eS.symm
          have HJ := hid hjt
          have c0 := (HV2.out.cell (p := ⟨b, off + j * 3, none⟩) hbl').trans g0
          haveI : InW b V2 := ⟨Nat.lt_of_lt_of_le hbl' HV2.out.size⟩
          clear eS hcu huk hu g0 g1 g2
          have hj1 : (0 : Int) ≤ (j : Int) := by omega
          have hj2 : (j : Int) < (is.length : Int) := by omega
          have hj3 : (j : Int) < (k : Int) := by omega
          cases bS with
          | true =>
            go_wp2_with fail
            refine wp_region_ext (by kernel_rfl) (by kernel_rfl) ?_; (repeat (go_big_quiet_step ((go_at_call 16; refine (gS.out _ (by (with_reducible repeat' (first | exact Hid.out (by assumption) | exact Below.refl _ _ | exact Nat.le_refl _ | refine Below.alloc ?_ ?_ _ | refine below_ext _ ?_ ?_ | refine Below.drew ?_ | refine Below.setCell ?_ ?_ _ | refine le_alloc ?_ | refine Ext.le_size _ ?_ | refine le_drew ?_ | refine le_setCell ?_)); (all_goals (first | omega | (simp; done) | (simp; omega))))).at)))); refine wpQuiet_nil ?_; intro xw
            go_wp2_with fail
            go_ret
            exact ⟨ret_int (fe_some HZ.out HY.out (by rw [HFK.out, any_take_hit HJ.out HU.out ES.out]; rfl) (by omega)), ((HW).out.trans (Below.mono (show Below V.heap.size V _ from (by (with_reducible repeat' (first | exact Hid.out (by assumption) | exact Below.refl _ _ | exact Nat.le_refl _ | refine Below.alloc ?_ ?_ _ | refine below_ext _ ?_ ?_ | refine Below.drew ?_ | refine Below.setCell ?_ ?_ _ | refine le_alloc ?_ | refine Ext.le_size _ ?_ | refine le_drew ?_ | refine le_setCell ?_)); (all_goals (first | omega | (simp; done) | (simp; omega))))) (by have := (HW).out.size; omega)))⟩
          | false =>
            go_wp2_with fail
            refine wp_region_ext (by kernel_rfl) (by kernel_rfl) ?_; (repeat (go_big_quiet_step ((go_at_call 16; refine (gS.out _ (by (with_reducible repeat' (first | exact Hid.out (by assumption) | exact Below.refl _ _ | exact Nat.le_refl _ | refine Below.alloc ?_ ?_ _ | refine below_ext _ ?_ ?_ | refine Below.drew ?_ | refine Below.setCell ?_ ?_ _ | refine le_alloc ?_ | refine Ext.le_size _ ?_ | refine le_drew ?_ | refine le_setCell ?_)); (all_goals (first | omega | (simp; done) | (simp; omega))))).at)))); refine wpQuiet_nil ?_; intro xw
            go_wp2_with fail
            go_roundw
            case rel => exact ⟨j + 1, ⟨_, (by with_reducible repeat' (first | exact Below.refl _ _ | exact Nat.le_refl _ | refine Below.alloc ?_ ?_ _ | refine below_ext _ ?_ ?_ | refine Below.drew ?_ | refine Below.setCell ?_ ?_ _ | refine le_alloc ?_ | refine Ext.le_size _ ?_ | refine le_drew ?_ | refine le_setCell ?_))⟩, by omega, by go_num, hid (fun n u hn hu => by
                rcases Nat.lt_succ_iff_lt_or_eq.1 hn with h | rfl
                · exact HZ2.out n u h hu
                · have h1 := HU.out.symm.trans hu; cases h1; exact ES.out), rfl⟩
            case measure => simp [intOf]; omega
        · have HX := hid (any_take_miss (k := k) (f := fun y : Ip => bEq ys y.aid.xs) (xs := is) fun n u hn hu => HZ2.out n u (by omega) hu)
          go_wp2_with fail
          go_roundw
          case rel => exact ⟨k + 1, ⟨_, (by (with_reducible repeat' (first | exact Hid.out (by assumption) | exact Below.refl _ _ | exact Nat.le_refl _ | refine Below.alloc ?_ ?_ _ | refine below_ext _ ?_ ?_ | refine Below.drew ?_ | refine Below.setCell ?_ ?_ _ | refine le_alloc ?_ | refine Ext.le_size _ ?_ | refine le_drew ?_ | refine le_setCell ?_)); (all_goals (first | omega | (simp; done) | (simp; omega))))⟩, by omega, by go_num, hid (fun n u hn hu => by
              rcases Nat.lt_succ_iff_lt_or_eq.1 hn with h | rfl
              · exact HZ.out n u h hu
              · have h1 := HY.out.symm.trans hu; cases h1; rw [HFK.out, HX.out]; rfl), rfl⟩
          case measure => simp [intOf]; omega
    · go_wp2_with fail
      go_ret
      exact ⟨ret_int (fe_none fun j u hu => HZ.out j u (by have := (List.getElem?_eq_some_iff.1 hu).1; omega) hu), ((HW).out.trans (Below.mono (show Below V.heap.size V _ from (by (with_reducible repeat' (first | exact Hid.out (by assumption) | exact Below.refl _ _ | exact Nat.le_refl _ | refine Below.alloc ?_ ?_ _ | refine below_ext _ ?_ ?_ | refine Below.drew ?_ | refine Below.setCell ?_ ?_ _ | refine le_alloc ?_ | refine Ext.le_size _ ?_ | refine le_drew ?_ | refine le_setCell ?_)); (all_goals (first | omega | (simp; done) | (simp; omega))))) (by have := (HW).out.size; omega)))⟩
end Go.Proofs.YthagkijplklemaaGreatDoor
end

section
namespace Go.Proofs.YthagkijplklemaaGreatDoor
open Go.ChangeShapes Go.WideShapes Go.ChangeAt Go.RowKit Go.Sc
set_option maxRecDepth 20000 in
set_option maxHeartbeats 4000000 in
theorem rvirtuals_any (p : Pk) (n : Nat) (x : Cl) (w : World) (hp : Hid (p.Ok w)) (hcl : Hid (p.classes.xs[n]? = some x)) : Gives Tryz.prog 63 #[p.v, .int .i64 n] w (.int .i64 (firstE (fun i m => virtE p n x i m) 0 x.virt.xs)) := by
  obtain ⟨F, hF⟩ : ∃ F : Nat → Int → Int, F = fun i m => virtE p n x i m := ⟨_, rfl⟩
  have hE : ∀ i m, F i m = if m = -1 then (if x.isI then 4 else 0) else if 0 ≤ m ∧ m < p.methods.xs.length then
    match p.methods.xs[m.toNat]? with
    | some me => if me.static = true ∨ me.cls ≠ n then 4 else if (x.virt.xs.take i).any (fun y => m == y) then 13 else 0
    | none => 0
    else 2 := by rw [hF]; intro i m; rfl
  rw [← hF]
  clear hF
  have ho1 := hp.out.methods
  obtain ⟨hok, b0, off0, hba0, hbl0, hc0⟩ := hp.out.classes.at_ n x hcl.out
  have hl2 := (List.getElem?_eq_some_iff.1 hcl.out).1
  have hle2 := hp.out.classes.le
  have hmx2 := hp.out.classes.max
  have hov := hok.virt
  obtain ⟨aid, mj, mn, im, ⟨ca, cc, cs⟩, ⟨ma, mc, ms⟩, st, ap⟩ := p
  obtain ⟨⟨sp, sc⟩, isI, ext, fields, ⟨va, vc, vs⟩, impls⟩ := x
  simp only at ho1 hE hba0 hl2 hle2 hmx2 hov ⊢
  subst hba0
  have q0 := hc0 0 _ rfl; have q1 := hc0 1 _ rfl; have q2 := hc0 2 _ rfl; have q3 := hc0 3 _ rfl; have q4 := hc0 4 _ rfl; have q5 := hc0 5 _ rfl; have q6 := hc0 6 _ rfl; simp only [Nat.add_zero] at q0
  haveI : InW b0 w := ⟨hbl0⟩
  have HE := hid hE
  have hle := hov.le
  have hmx := hov.max
  have mle := ho1.le
  have mmx := ho1.max
  simp only at hle hmx mle mmx
  have hn1 : (0 : Int) ≤ (n : Int) := by omega
  have hn2 : (n : Int) < (cs.length : Int) := by omega
  clear hp hE hc0 hok hcl hbl0
  show Gives _ _ #[.agg #[.slice aid.a aid.xs.length aid.c, .int .i64 mj, .int .i64 mn, .slice im.a im.xs.length im.c, .slice (some ⟨b0, off0, none⟩) cs.length cc, .slice ma ms.length mc, .slice st.a st.xs.length st.c, .slice ap.a ap.xs.length ap.c], .int .i64 n] _ _
  unfold Gives
  go_enter Tryz.func63, Tryz.ntmps63
  go_wp2_with fail
  refine gen_v (fun V => Below w.heap.size w V ∧ w.heap.size + 1 < V.heap.size ∧ V.cell? ⟨w.heap.size, 5, none⟩ = some (.slice ma ms.length mc) ∧ V.cell? ⟨w.heap.size + 1, 2, none⟩ = some (.bool isI) ∧ V.cell? ⟨w.heap.size + 1, 5, none⟩ = some (.slice va vs.length vc)) ⟨(by with_reducible repeat' (first | exact Below.refl _ _ | exact Nat.le_refl _ | refine Below.alloc ?_ ?_ _ | refine below_ext _ ?_ ?_ | refine Below.drew ?_ | refine Below.setCell ?_ ?_ _ | refine le_alloc ?_ | refine Ext.le_size _ ?_ | refine le_drew ?_ | refine le_setCell ?_)), InW.lt, by simp, by simp, by simp⟩ ?_
  rintro V ⟨hwV, hV, k5, e2, e4⟩
  have HW := hid hwV
  have HM := hid (ho1.mono hwV)
  have HI := hid (hov.mono hwV)
  haveI : InW w.heap.size V := ⟨by omega⟩
  haveI : InW (w.heap.size + 1) V := ⟨hV⟩
  clear hwV ho1 hov q0 q1 q2 q3 q4 q5 q6
  go_loopw [6] (fun i wr => ∃ (k : Nat) (x : Ext V), k ≤ vs.length ∧ i = .int .i64 k ∧ Hid (∀ (j : Nat) (u : Int), j < k → vs[j]? = some u → F j u = 0) ∧ wr = x.val) (fun i _ => vs.length - (intOf i).toNat)
  case atStart => exact ⟨0, ⟨V, Below.refl _ _⟩, Nat.zero_le _, rfl, hid (fun _ _ h => absurd h (by omega)), rfl⟩
  case round =>
    obtain ⟨k, x, hk, rfl, HZ, rfl⟩ := hrel
    by_cases hlt : k < vs.length
    · obtain ⟨v, hy⟩ := getElem?_of_lt hlt
      obtain ⟨hok, b, off, hba, hbl, hc⟩ := HI.out.at_ k v hy
      simp only at hba
      subst hba
      have HY := hid hy
      have HFK := hid (HE.out k v)
      have h0 := hc 0 _ rfl; simp only [Nat.add_zero, Nat.mul_one] at h0
      haveI : InW b V := ⟨hbl⟩
      clear hc hok hy
      have hk1 : (0 : Int) ≤ (k : Int) := by omega
      have hk2 : (k : Int) < (vs.length : Int) := by omega
      by_cases hv : v = -1
      · subst hv
        have HFK := hid (HFK.out.trans (if_pos rfl))
        cases isI
        · go_wp2_with fail
          go_roundw
          case rel => exact ⟨k + 1, ⟨_, (by (with_reducible repeat' (first | exact Hid.out (by assumption) | exact Below.refl _ _ | exact Nat.le_refl _ | refine Below.alloc ?_ ?_ _ | refine below_ext _ ?_ ?_ | refine Below.drew ?_ | refine Below.setCell ?_ ?_ _ | refine le_alloc ?_ | refine Ext.le_size _ ?_ | refine le_drew ?_ | refine le_setCell ?_)); (all_goals (first | omega | (simp; done) | (simp; omega))))⟩, by omega, by go_num, hid (fun n u hn hu => by
              rcases Nat.lt_succ_iff_lt_or_eq.1 hn with h | rfl
              · exact HZ.out n u h hu
              · have h1 := HY.out.symm.trans hu; cases h1; exact HFK.out), rfl⟩
          case measure => simp [intOf]; omega
        · go_wp2_with fail
          (go_ret; exact ⟨ret_int (fe_some HZ.out HY.out (HFK.out) (by omega)), ((HW).out.trans (Below.mono (show Below V.heap.size V _ from (by (with_reducible repeat' (first | exact Hid.out (by assumption) | exact Below.refl _ _ | exact Nat.le_refl _ | refine Below.alloc ?_ ?_ _ | refine below_ext _ ?_ ?_ | refine Below.drew ?_ | refine Below.setCell ?_ ?_ _ | refine le_alloc ?_ | refine Ext.le_size _ ?_ | refine le_drew ?_ | refine le_setCell ?_)); (all_goals (first | omega | (simp; done) | (simp; omega))))) (by have := (HW).out.size; omega)))⟩)
      · have HFK := hid (HFK.out.trans (if_neg hv))
        have hv' : (v == -1) = false := by simp [hv]
        by_cases hb : 0 ≤ v ∧ v < ms.length
        · have HFK := hid (HFK.out.trans (if_pos hb))
          obtain ⟨vn, rfl⟩ := Int.eq_ofNat_of_zero_le hb.1
          obtain ⟨me, hme⟩ := getElem?_of_lt (show vn < ms.length by omega)
          have gB : Hid (∀ W : World, Gives Tryz.prog 65 #[.int .i64 (vn : Int), .int .i64 ms.length] W (.bool true)) := fun W => by
            have := rbelow_any (vn : Int) (ms.length : Int) W
            rwa [show below (vn : Int) (ms.length : Int) = true by unfold below; simp; omega] at this
          have HFK : Hid (F k vn = if me.static = true ∨ me.cls ≠ n then 4 else if (vs.take k).any (fun y => (vn : Int) == y) then 13 else 0) := by
            have := HFK.out
            rw [Int.toNat_natCast, hme] at this
            exact this
          obtain ⟨hok1, b1, off1, hba1, hbl1, hc1⟩ := HM.out.at_ vn me hme
          simp only at hba1
          subst hba1
          obtain ⟨s, ab, cl, pa, r, lo, sk, co, hs⟩ := me
          have g0 := hc1 0 _ rfl
          have g2 := hc1 2 _ rfl
          simp only [Nat.add_zero] at g0
          simp only at HFK
          haveI : InW b1 V := ⟨hbl1⟩
          clear hc1 hok1 hme
          have hm1 : (0 : Int) ≤ (vn : Int) := by omega
          have hm2 : (vn : Int) < (ms.length : Int) := by omega
          by_cases hsc : s = true ∨ cl ≠ n
          · have HF4 := hid (HFK.out.trans (if_pos hsc))
            clear HFK
            cases s
            · have hcn : (cl != (n : Int)) = true := by simp; rcases hsc with h | h <;> simp_all
              go_wp2_with (first | (go_at_call 65; refine (gB.out _).go.mono ?_; rintro e w' ⟨rfl, xw, rfl⟩) | fail)
              (go_ret; exact ⟨ret_int (fe_some HZ.out HY.out (HF4.out) (by omega)), ((HW).out.trans (Below.mono (show Below V.heap.size V _ from (by (with_reducible repeat' (first | exact Hid.out (by assumption) | exact Below.refl _ _ | exact Nat.le_refl _ | refine Below.alloc ?_ ?_ _ | refine below_ext _ ?_ ?_ | refine Below.drew ?_ | refine Below.setCell ?_ ?_ _ | refine le_alloc ?_ | refine Ext.le_size _ ?_ | refine le_drew ?_ | refine le_setCell ?_)); (all_goals (first | omega | (simp; done) | (simp; omega))))) (by have := (HW).out.size; omega)))⟩)
            · go_wp2_with (first | (go_at_call 65; refine (gB.out _).go.mono ?_; rintro e w' ⟨rfl, xw, rfl⟩) | fail)
              (go_ret; exact ⟨ret_int (fe_some HZ.out HY.out (HF4.out) (by omega)), ((HW).out.trans (Below.mono (show Below V.heap.size V _ from (by (with_reducible repeat' (first | exact Hid.out (by assumption) | exact Below.refl _ _ | exact Nat.le_refl _ | refine Below.alloc ?_ ?_ _ | refine below_ext _ ?_ ?_ | refine Below.drew ?_ | refine Below.setCell ?_ ?_ _ | refine le_alloc ?_ | refine Ext.le_size _ ?_ | refine le_drew ?_ | refine le_setCell ?_)); (all_goals (first | omega | (simp; done) | (simp; omega))))) (by have := (HW).out.size; omega)))⟩)
          · have HF5 := hid (HFK.out.trans (if_neg hsc))
            clear HFK
            simp only [not_or, ne_eq, Decidable.not_not, Bool.not_eq_true] at hsc
            obtain ⟨rfl, rfl⟩ := hsc
            go_wp2_with (first | (go_at_call 65; refine (gB.out _).go.mono ?_; rintro e w' ⟨rfl, xw, rfl⟩) | fail)
            go_loopw [8] (fun i wr => ∃ (j : Nat) (z : Ext V), j ≤ k ∧ i = .int .i64 j ∧ Hid (∀ (n : Nat) (u : Int), n < j → vs[n]? = some u → ((vn : Int) == u) = false) ∧ wr = z.val) (fun i _ => k - (intOf i).toNat)
            case atStart => exact ⟨0, ⟨_, (by (with_reducible repeat' (first | exact Hid.out (by assumption) | exact Below.refl _ _ | exact Nat.le_refl _ | refine Below.alloc ?_ ?_ _ | refine below_ext _ ?_ ?_ | refine Below.drew ?_ | refine Below.setCell ?_ ?_ _ | refine le_alloc ?_ | refine Ext.le_size _ ?_ | refine le_drew ?_ | refine le_setCell ?_)); (all_goals (first | omega | (simp; done) | (simp; omega))))⟩, Nat.zero_le _, rfl, hid (fun _ _ h => absurd h (by omega)), rfl⟩
            case round =>
              obtain ⟨j, z, hj, rfl, HZ2, rfl⟩ := hrel
              by_cases hjt : j < k
              · obtain ⟨u, hu⟩ := getElem?_of_lt (show j < vs.length by omega)
                obtain ⟨huk, b', off', hba', hbl', hcu⟩ := HI.out.at_ j u hu
                cases hba'
                have HU := hid hu
                have d0 := hcu 0 _ rfl; simp only [Nat.add_zero, Nat.mul_one] at d0
                have HJ := hid hjt
                clear hcu huk hu
                have hj1 : (0 : Int) ≤ (j : Int) := by omega
                have hj2 : (j : Int) < (vs.length : Int) := by omega
                have hj3 : (j : Int) < (k : Int) := by omega
                by_cases huv : u = (vn : Int)
                · have ES := hid (show ((vn : Int) == u) = true by simp [huv])
                  subst huv
                  go_wp2_with fail
                  go_ret
                  exact ⟨ret_int (fe_some HZ.out HY.out (by rw [HF5.out, any_take_hit HJ.out HU.out ES.out]; rfl) (by omega)), ((HW).out.trans (Below.mono (show Below V.heap.size V _ from (by (with_reducible repeat' (first | exact Hid.out (by assumption) | exact Below.refl _ _ | exact Nat.le_refl _ | refine Below.alloc ?_ ?_ _ | refine below_ext _ ?_ ?_ | refine Below.drew ?_ | refine Below.setCell ?_ ?_ _ | refine le_alloc ?_ | refine Ext.le_size _ ?_ | refine le_drew ?_ | refine le_setCell ?_)); (all_goals (first | omega | (simp; done) | (simp; omega))))) (by have := (HW).out.size; omega)))⟩
                · have ES := hid (show ((vn : Int) == u) = false by simp; omega)
                  have hne : (u == (vn : Int)) = false := by simp [huv]
                  go_wp2_with fail
                  go_roundw
                  case rel => exact ⟨j + 1, ⟨_, (by with_reducible repeat' (first | exact Below.refl _ _ | exact Nat.le_refl _ | refine Below.alloc ?_ ?_ _ | refine below_ext _ ?_ ?_ | refine Below.drew ?_ | refine Below.setCell ?_ ?_ _ | refine le_alloc ?_ | refine Ext.le_size _ ?_ | refine le_drew ?_ | refine le_setCell ?_))⟩, by omega, by go_num, hid (fun n u hn hu => by
                      rcases Nat.lt_succ_iff_lt_or_eq.1 hn with h | rfl
                      · exact HZ2.out n u h hu
                      · have h1 := HU.out.symm.trans hu; cases h1; exact ES.out), rfl⟩
                  case measure => simp [intOf]; omega
              · have HX := hid (any_take_miss (k := k) (f := fun y : Int => (vn : Int) == y) (xs := vs) fun n u hn hu => HZ2.out n u (by omega) hu)
                go_wp2_with fail
                go_roundw
                case rel => exact ⟨k + 1, ⟨_, (by (with_reducible repeat' (first | exact Hid.out (by assumption) | exact Below.refl _ _ | exact Nat.le_refl _ | refine Below.alloc ?_ ?_ _ | refine below_ext _ ?_ ?_ | refine Below.drew ?_ | refine Below.setCell ?_ ?_ _ | refine le_alloc ?_ | refine Ext.le_size _ ?_ | refine le_drew ?_ | refine le_setCell ?_)); (all_goals (first | omega | (simp; done) | (simp; omega))))⟩, by omega, by go_num, hid (fun n u hn hu => by
                    rcases Nat.lt_succ_iff_lt_or_eq.1 hn with h | rfl
                    · exact HZ.out n u h hu
                    · have h1 := HY.out.symm.trans hu; cases h1; rw [HF5.out, HX.out]; rfl), rfl⟩
                case measure => simp [intOf]; omega
        · have HFK := hid (HFK.out.trans (if_neg hb))
          have gB : Hid (∀ W : World, Gives Tryz.prog 65 #[.int .i64 v, .int .i64 ms.length] W (.bool false)) := fun W => by
            have := rbelow_any v (ms.length : Int) W
            rwa [show below v (ms.length : Int) = false by unfold below; simp; omega] at this
          go_wp2_with (first | (go_at_call 65; refine (gB.out _).go.mono ?_; rintro e w' ⟨rfl, xw, rfl⟩) | fail)
          (go_ret; exact ⟨ret_int (fe_some HZ.out HY.out (HFK.out) (by omega)), ((HW).out.trans (Below.mono (show Below V.heap.size V _ from (by (with_reducible repeat' (first | exact Hid.out (by assumption) | exact Below.refl _ _ | exact Nat.le_refl _ | refine Below.alloc ?_ ?_ _ | refine below_ext _ ?_ ?_ | refine Below.drew ?_ | refine Below.setCell ?_ ?_ _ | refine le_alloc ?_ | refine Ext.le_size _ ?_ | refine le_drew ?_ | refine le_setCell ?_)); (all_goals (first | omega | (simp; done) | (simp; omega))))) (by have := (HW).out.size; omega)))⟩)
    · go_wp2_with fail
      go_ret
      exact ⟨ret_int (fe_none fun j u hu => HZ.out j u (by have := (List.getElem?_eq_some_iff.1 hu).1; omega) hu), ((HW).out.trans (Below.mono (show Below V.heap.size V _ from (by (with_reducible repeat' (first | exact Hid.out (by assumption) | exact Below.refl _ _ | exact Nat.le_refl _ | refine Below.alloc ?_ ?_ _ | refine below_ext _ ?_ ?_ | refine Below.drew ?_ | refine Below.setCell ?_ ?_ _ | refine le_alloc ?_ | refine Ext.le_size _ ?_ | refine le_drew ?_ | refine le_setCell ?_)); (all_goals (first | omega | (simp; done) | (simp; omega))))) (by have := (HW).out.size; omega)))⟩
end Go.Proofs.YthagkijplklemaaGreatDoor
end

section
namespace Go.Proofs.YthagkijplklemaaGreatDoor
open Go.ChangeShapes Go.WideShapes Go.ChangeAt Go.RowKit Go.Sc
theorem any_hit {α : Type} {f : α → Bool} {xs : List α} {k : Nat} {y : α} (hy : xs[k]? = some y) (h : f y = true) : xs.any f = true := by
  rw [List.any_eq_true]
  exact ⟨y, List.mem_of_getElem? hy, h⟩
theorem any_end {α : Type} {f : α → Bool} {xs : List α} (h : ∀ (j : Nat) (y : α), xs[j]? = some y → f y = false) : xs.any f = false := by
  rw [List.any_eq_false]
  intro y hy
  obtain ⟨j, hj⟩ := List.getElem?_of_mem hy
  simp [h j y hj]
/-- A block holds a package: its eight cells. -/
theorem pk_cells (w : World) (p : Pk) (t : TypeId) : ∀ i v, (#[.slice p.aid.a p.aid.xs.length p.aid.c, .int .i64 p.major, .int .i64 p.minor, .slice p.imports.a p.imports.xs.length p.imports.c, .slice p.classes.a p.classes.xs.length p.classes.c, .slice p.methods.a p.methods.xs.length p.methods.c, .slice p.statics.a p.statics.xs.length p.statics.c, .slice p.applets.a p.applets.xs.length p.applets.c] : Array Value)[i]? = some v → (w.alloc (.cells #[.slice p.aid.a p.aid.xs.length p.aid.c, .int .i64 p.major, .int .i64 p.minor, .slice p.imports.a p.imports.xs.length p.imports.c, .slice p.classes.a p.classes.xs.length p.classes.c, .slice p.methods.a p.methods.xs.length p.methods.c, .slice p.statics.a p.statics.xs.length p.statics.c, .slice p.applets.a p.applets.xs.length p.applets.c] t)).cell? ⟨w.heap.size, i, none⟩ = some v := fun i v h => by rw [World.cell?_alloc_new]; exact h
set_option maxRecDepth 20000 in
set_option maxHeartbeats 4000000 in
theorem rimpls_any (p : Pk) (x : Cl) (w : World) (hx : Hid (x.Ok w)) : Gives Tryz.prog 64 #[p.v, x.v] w (.int .i64 (firstE (implE p x) 0 x.impls.xs)) := by
  obtain ⟨F, hF⟩ : ∃ F : Nat → Im → Int, F = implE p x := ⟨_, rfl⟩
  obtain ⟨f, hf⟩ : ∃ f, f = inRange p.imports.xs.length p.classes.xs.length := ⟨_, rfl⟩
  have hE : ∀ k y, F k y = if f y.i then (if (x.impls.xs.take k).any (fun z => rfEq z.i y.i) then 13 else if 16 < y.ms.xs.length then 3 else if y.ms.xs.any (fun m => !below m 16) then 2 else 0) else 2 := by rw [hF, hf]; intro k y; rfl
  have gR : Hid (∀ (r : Rf) (W : World), Gives Tryz.prog 61 #[p.v, r.v] W (.bool (f r))) := fun r W => by rw [hf]; exact rInRange_any p r W
  rw [← hF]
  clear hF hf
  have hov := hx.out.impls
  obtain ⟨⟨sp, sc⟩, isI, ext, fields, virt, ⟨ia, ic, is⟩⟩ := x
  simp only at hE hov ⊢
  have HE := hid hE
  have hle := hov.le
  have hmx := hov.max
  simp only at hle hmx
  clear hx hE
  show Gives _ _ #[p.v, .agg #[.int .i64 sp, .int .i64 sc, .bool isI, .slice ext.a ext.xs.length ext.c, .slice fields.a fields.xs.length fields.c, .slice virt.a virt.xs.length virt.c, .slice ia is.length ic]] _ _
  unfold Gives
  go_enter Tryz.func64, Tryz.ntmps64
  go_wp2_with fail
  refine gen_v (fun V => Below w.heap.size w V ∧ w.heap.size + 1 < V.heap.size ∧ V.cell? ⟨w.heap.size + 1, 6, none⟩ = some (.slice ia is.length ic) ∧ (∀ i v, (#[.slice p.aid.a p.aid.xs.length p.aid.c, .int .i64 p.major, .int .i64 p.minor, .slice p.imports.a p.imports.xs.length p.imports.c, .slice p.classes.a p.classes.xs.length p.classes.c, .slice p.methods.a p.methods.xs.length p.methods.c, .slice p.statics.a p.statics.xs.length p.statics.c, .slice p.applets.a p.applets.xs.length p.applets.c] : Array Value)[i]? = some v → V.cell? ⟨w.heap.size, i, none⟩ = some v)) ⟨(by with_reducible repeat' (first | exact Below.refl _ _ | exact Nat.le_refl _ | refine Below.alloc ?_ ?_ _ | refine below_ext _ ?_ ?_ | refine Below.drew ?_ | refine Below.setCell ?_ ?_ _ | refine le_alloc ?_ | refine Ext.le_size _ ?_ | refine le_drew ?_ | refine le_setCell ?_)), InW.lt, by simp, fun i v h => (alloc_cell_in _ _ _).trans (pk_cells w p _ i v h)⟩ ?_
  rintro V ⟨hwV, hV, e6, hc0⟩
  have HW := hid hwV
  have k0 := hc0 0 _ rfl
  have k1 := hc0 1 _ rfl
  have k2 := hc0 2 _ rfl
  have k3 := hc0 3 _ rfl
  have k4 := hc0 4 _ rfl
  have k5 := hc0 5 _ rfl
  have k6 := hc0 6 _ rfl
  have k7 := hc0 7 _ rfl
  have HI := hid (hov.mono hwV)
  haveI : InW w.heap.size V := ⟨by omega⟩
  haveI : InW (w.heap.size + 1) V := ⟨hV⟩
  clear hwV hov hc0
  go_loopw [5] (fun i wr => ∃ (k : Nat) (x : Ext V), k ≤ is.length ∧ i = .int .i64 k ∧ Hid (∀ (j : Nat) (u : Im), j < k → is[j]? = some u → F j u = 0) ∧ wr = x.val) (fun i _ => is.length - (intOf i).toNat)
  case atStart => exact ⟨0, ⟨V, Below.refl _ _⟩, Nat.zero_le _, rfl, hid (fun _ _ h => absurd h (by omega)), rfl⟩
  case round =>
    obtain ⟨k, x, hk, rfl, HZ, rfl⟩ := hrel
    by_cases hlt : k < is.length
    · obtain ⟨y, hy⟩ := getElem?_of_lt hlt
      obtain ⟨hok, b, off, hba, hbl, hc⟩ := HI.out.at_ k y hy
      simp only at hba
      subst hba
      have HY := hid hy
      have HFK := hid (HE.out k y)
      have HMS := hid hok.2.2
      obtain ⟨⟨y1, y2⟩, ⟨ma, mc, ms⟩⟩ := y
      have h0 := hc 0 _ rfl; have h1 := hc 1 _ rfl; have h2 := hc 2 _ rfl; simp only [Nat.add_zero] at h0
      simp only at h0 h1 h2 HFK HMS
      have mle := HMS.out.le
      have mmx := HMS.out.max
      simp only at mle mmx
      have gB := hid (fun W => gR.out ⟨y1, y2⟩ W)
      obtain ⟨c1, e1⟩ : ∃ b, f ⟨y1, y2⟩ = !b := ⟨!f ⟨y1, y2⟩, by simp⟩
      rw [e1] at gB HFK
      haveI : InW b V := ⟨hbl⟩
      clear hc hok hy e1
      have hk1 : (0 : Int) ≤ (k : Int) := by omega
      have hk2 : (k : Int) < (is.length : Int) := by omega
      cases c1 with
      | true =>
        go_wp2_with (first | (go_at_call 61; refine (gB.out _).go.mono ?_; rintro e w' ⟨rfl, xw, rfl⟩) | fail)
        (go_ret; exact ⟨ret_int (fe_some HZ.out HY.out (by rw [HFK.out]; rfl) (by omega)), ((HW).out.trans (Below.mono (show Below V.heap.size V _ from (by (with_reducible repeat' (first | exact Hid.out (by assumption) | exact Below.refl _ _ | exact Nat.le_refl _ | refine Below.alloc ?_ ?_ _ | refine below_ext _ ?_ ?_ | refine Below.drew ?_ | refine Below.setCell ?_ ?_ _ | refine le_alloc ?_ | refine Ext.le_size _ ?_ | refine le_drew ?_ | refine le_setCell ?_)); (all_goals (first | omega | (simp; done) | (simp; omega))))) (by have := (HW).out.size; omega)))⟩)
      | false =>
        have HF1 := hid (HFK.out.trans (if_pos rfl))
        clear HFK
        go_wp2_with (first | (go_at_call 61; refine (gB.out _).go.mono ?_; rintro e w' ⟨rfl, xw, rfl⟩) | fail)
        refine gen_v (fun V2 => Below V.heap.size V V2 ∧ x.val.heap.size < V2.heap.size ∧ V2.cell? ⟨x.val.heap.size, 0, none⟩ = some (.int .i64 y1) ∧ V2.cell? ⟨x.val.heap.size, 1, none⟩ = some (.int .i64 y2) ∧ V2.cell? ⟨x.val.heap.size, 2, none⟩ = some (.slice ma ms.length mc)) ⟨(by (with_reducible repeat' (first | exact Hid.out (by assumption) | exact Below.refl _ _ | exact Nat.le_refl _ | refine Below.alloc ?_ ?_ _ | refine below_ext _ ?_ ?_ | refine Below.drew ?_ | refine Below.setCell ?_ ?_ _ | refine le_alloc ?_ | refine Ext.le_size _ ?_ | refine le_drew ?_ | refine le_setCell ?_)); (all_goals (first | omega | (simp; done) | (simp; omega)))), InW.lt, by simp [Ext.cell], by simp [Ext.cell], by simp [Ext.cell]⟩ ?_
        rintro V2 ⟨hV2, hxl, j0, j1, j2⟩
        have HV2 := hid hV2
        have hvs := hV2.size
        haveI : InW (w.heap.size + 1) V2 := ⟨by omega⟩
        haveI : InW x.val.heap.size V2 := ⟨hxl⟩
        have e6' := (hV2.cell (p := ⟨w.heap.size + 1, 6, none⟩) hV).trans e6
        have hxs := x.size
        clear hV2 h0 h1 h2
        go_loopw [7] (fun i wr => ∃ (j : Nat) (z : Ext V2), j ≤ k ∧ i = .int .i64 j ∧ Hid (∀ (n : Nat) (u : Im), n < j → is[n]? = some u → rfEq u.i ⟨y1, y2⟩ = false) ∧ wr = z.val) (fun i _ => k - (intOf i).toNat)
        case atStart => exact ⟨0, ⟨V2, Below.refl _ _⟩, Nat.zero_le _, rfl, hid (fun _ _ h => absurd h (by omega)), rfl⟩
        case round =>
          obtain ⟨j, z, hj, rfl, HZ2, rfl⟩ := hrel
          by_cases hjt : j < k
          · obtain ⟨u, hu⟩ := getElem?_of_lt (show j < is.length by omega)
            obtain ⟨huk, b', off', hba', hbl', hcu⟩ := HI.out.at_ j u hu
            cases hba'
            have HU := hid hu
            obtain ⟨⟨u1, u2⟩, um⟩ := u
            have g0 := hcu 0 _ rfl; have g1 := hcu 1 _ rfl; have g2 := hcu 2 _ rfl; simp only [Nat.add_zero] at g0
            simp only at g0 g1 g2
            have HJ := hid hjt
            have c0 := (HV2.out.cell (p := ⟨b, off + j * 3, none⟩) hbl').trans g0
            have c1 := (HV2.out.cell (p := ⟨b, off + j * 3 + 1, none⟩) hbl').trans g1
            haveI : InW b V2 := ⟨Nat.lt_of_lt_of_le hbl' HV2.out.size⟩
            clear hcu huk hu g0 g1 g2
            have hj1 : (0 : Int) ≤ (j : Int) := by omega
            have hj2 : (j : Int) < (is.length : Int) := by omega
            have hj3 : (j : Int) < (k : Int) := by omega
            by_cases hR : u1 = y1 ∧ u2 = y2
            · obtain ⟨rfl, rfl⟩ := hR
              have ES := hid (show rfEq ⟨u1, u2⟩ ⟨u1, u2⟩ = true by simp [rfEq])
              go_wp2_with fail
              refine wp_region_ext (by kernel_rfl) (by kernel_rfl) ?_; (repeat (go_big_quiet_step (fail))); refine wpQuiet_nil ?_; intro xw
              go_wp2_with fail
              go_ret
              exact ⟨ret_int (fe_some HZ.out HY.out (by rw [HF1.out, any_take_hit HJ.out HU.out ES.out]; rfl) (by omega)), ((HW).out.trans (Below.mono (show Below V.heap.size V _ from (by (with_reducible repeat' (first | exact Hid.out (by assumption) | exact Below.refl _ _ | exact Nat.le_refl _ | refine Below.alloc ?_ ?_ _ | refine below_ext _ ?_ ?_ | refine Below.drew ?_ | refine Below.setCell ?_ ?_ _ | refine le_alloc ?_ | refine Ext.le_size _ ?_ | refine le_drew ?_ | refine le_setCell ?_)); (all_goals (first | omega | (simp; done) | (simp; omega))))) (by have := (HW).out.size; omega)))⟩
            · have ES := hid (show rfEq ⟨u1, u2⟩ ⟨y1, y2⟩ = false by
                simp only [rfEq]
                by_cases q1 : u1 = y1
                · by_cases q2 : u2 = y2
                  · exact absurd ⟨q1, q2⟩ hR
                  · simp [q2]
                · simp [q1])
              have hor : ¬ u1 = y1 ∨ (u1 = y1 ∧ ¬ u2 = y2) := by
                by_cases q1 : u1 = y1
                · exact .inr ⟨q1, fun q2 => hR ⟨q1, q2⟩⟩
                · exact .inl q1
              clear hR
              rcases hor with q | ⟨q0, q⟩
              all_goals
                go_wp2_with fail
                refine wp_region_ext (by kernel_rfl) (by kernel_rfl) ?_; (repeat (go_big_quiet_step (fail))); refine wpQuiet_nil ?_; intro xw
                go_wp2_with fail
                first
                  | exact ⟨⟨j + 1, ⟨_, (by with_reducible repeat' (first | exact Below.refl _ _ | exact Nat.le_refl _ | refine Below.alloc ?_ ?_ _ | refine below_ext _ ?_ ?_ | refine Below.drew ?_ | refine Below.setCell ?_ ?_ _ | refine le_alloc ?_ | refine Ext.le_size _ ?_ | refine le_drew ?_ | refine le_setCell ?_))⟩, by omega, by go_num, hid (fun n u hn hu => by
                      rcases Nat.lt_succ_iff_lt_or_eq.1 hn with h | rfl
                      · exact HZ2.out n u h hu
                      · have h1 := HU.out.symm.trans hu; cases h1; exact ES.out), rfl⟩, by simp [intOf]; omega⟩
                  | (refine ⟨?_, ?_⟩
                     · (repeat apply Exists.intro)
                       refine ⟨?_, rfl⟩
                       exact ⟨j + 1, ⟨_, (by with_reducible repeat' (first | exact Below.refl _ _ | exact Nat.le_refl _ | refine Below.alloc ?_ ?_ _ | refine below_ext _ ?_ ?_ | refine Below.drew ?_ | refine Below.setCell ?_ ?_ _ | refine le_alloc ?_ | refine Ext.le_size _ ?_ | refine le_drew ?_ | refine le_setCell ?_))⟩, by omega, by go_num, hid (fun n u hn hu => by
                         rcases Nat.lt_succ_iff_lt_or_eq.1 hn with h | rfl
                         · exact HZ2.out n u h hu
                         · have h1 := HU.out.symm.trans hu; cases h1; exact ES.out), rfl⟩
                     · simp [intOf]; omega)
          · have HX := hid (any_take_miss (k := k) (f := fun z : Im => rfEq z.i ⟨y1, y2⟩) (xs := is) fun n u hn hu => HZ2.out n u (by omega) hu)
            have HF2 : Hid (F k ⟨⟨y1, y2⟩, ⟨ma, mc, ms⟩⟩ = if 16 < ms.length then 3 else if ms.any (fun m => !below m 16) then 2 else 0) := hid (by rw [HF1.out, HX.out]; rfl)
            clear HF1 HX
            by_cases h16 : 16 < ms.length
            · have HF3 := hid (HF2.out.trans (if_pos h16))
              have h16' : (16 : Int) < (ms.length : Int) := by omega
              clear h16
              go_wp2_with fail
              (go_ret; exact ⟨ret_int (fe_some HZ.out HY.out (HF3.out) (by omega)), ((HW).out.trans (Below.mono (show Below V.heap.size V _ from (by (with_reducible repeat' (first | exact Hid.out (by assumption) | exact Below.refl _ _ | exact Nat.le_refl _ | refine Below.alloc ?_ ?_ _ | refine below_ext _ ?_ ?_ | refine Below.drew ?_ | refine Below.setCell ?_ ?_ _ | refine le_alloc ?_ | refine Ext.le_size _ ?_ | refine le_drew ?_ | refine le_setCell ?_)); (all_goals (first | omega | (simp; done) | (simp; omega))))) (by have := (HW).out.size; omega)))⟩)
            · have HF3 := hid (HF2.out.trans (if_neg h16))
              have h16' : ¬ (16 : Int) < (ms.length : Int) := by omega
              clear h16 HF2
              go_wp2_with fail
              go_loopw [8] (fun i wr => ∃ (j : Nat) (z : Ext V2), j ≤ ms.length ∧ i = .int .i64 j ∧ Hid (∀ (n : Nat) (u : Int), ms[n]? = some u → n < j → (!below u 16) = false) ∧ wr = z.val) (fun i _ => ms.length - (intOf i).toNat)
              case atStart => exact ⟨0, ⟨_, (by (with_reducible repeat' (first | exact Hid.out (by assumption) | exact Below.refl _ _ | exact Nat.le_refl _ | refine Below.alloc ?_ ?_ _ | refine below_ext _ ?_ ?_ | refine Below.drew ?_ | refine Below.setCell ?_ ?_ _ | refine le_alloc ?_ | refine Ext.le_size _ ?_ | refine le_drew ?_ | refine le_setCell ?_)); (all_goals (first | omega | (simp; done) | (simp; omega))))⟩, Nat.zero_le _, rfl, hid (fun _ _ _ h => absurd h (by omega)), rfl⟩
              case round =>
                obtain ⟨l, z2, hl, rfl, HZ3, rfl⟩ := hrel
                by_cases hlt3 : l < ms.length
                · obtain ⟨u, hu⟩ := getElem?_of_lt hlt3
                  obtain ⟨huk, b', off', hba', hbl', hcu⟩ := HMS.out.at_ l u hu
                  simp only at hba'
                  subst hba'
                  have HU := hid hu
                  have g0 := hcu 0 _ rfl; simp only [Nat.add_zero, Nat.mul_one] at g0
                  obtain ⟨bb, eb⟩ : ∃ b, below u 16 = !b := ⟨!below u 16, by simp⟩
                  have gS : Hid (∀ W : World, Gives Tryz.prog 65 #[.int .i64 u, .int .i64 16] W (.bool (!bb))) := fun W => by rw [← eb]; exact rbelow_any u 16 W
                  have ES : Hid ((!below u 16) = bb) := hid (by rw [eb]; simp)
                  have c0 := (HV2.out.cell (p := ⟨b', off' + l * 1, none⟩) (by simpa using hbl')).trans (by simpa using g0)
                  simp only [Nat.mul_one] at c0
                  haveI : InW b' V2 := ⟨Nat.lt_of_lt_of_le hbl' HV2.out.size⟩
                  clear eb hcu huk hu g0
                  have hl1 : (0 : Int) ≤ (l : Int) := by omega
                  have hl2 : (l : Int) < (ms.length : Int) := by omega
                  cases bb with
                  | true =>
                    go_wp2_with (first | (go_at_call 65; refine (gS.out _).go.mono ?_; rintro e w' ⟨rfl, xw, rfl⟩) | fail)
                    (go_ret; exact ⟨ret_int (fe_some HZ.out HY.out (by rw [HF3.out, any_hit (f := fun m : Int => !below m 16) HU.out ES.out]; rfl) (by omega)), ((HW).out.trans (Below.mono (show Below V.heap.size V _ from (by (with_reducible repeat' (first | exact Hid.out (by assumption) | exact Below.refl _ _ | exact Nat.le_refl _ | refine Below.alloc ?_ ?_ _ | refine below_ext _ ?_ ?_ | refine Below.drew ?_ | refine Below.setCell ?_ ?_ _ | refine le_alloc ?_ | refine Ext.le_size _ ?_ | refine le_drew ?_ | refine le_setCell ?_)); (all_goals (first | omega | (simp; done) | (simp; omega))))) (by have := (HW).out.size; omega)))⟩)
                  | false =>
                    go_wp2_with (first | (go_at_call 65; refine (gS.out _).go.mono ?_; rintro e w' ⟨rfl, xw, rfl⟩) | fail)
                    go_roundw
                    case rel => exact ⟨l + 1, ⟨_, (by with_reducible repeat' (first | exact Below.refl _ _ | exact Nat.le_refl _ | refine Below.alloc ?_ ?_ _ | refine below_ext _ ?_ ?_ | refine Below.drew ?_ | refine Below.setCell ?_ ?_ _ | refine le_alloc ?_ | refine Ext.le_size _ ?_ | refine le_drew ?_ | refine le_setCell ?_))⟩, by omega, by go_num, hid (fun n u hu hn => by
                        rcases Nat.lt_succ_iff_lt_or_eq.1 hn with h | rfl
                        · exact HZ3.out n u hu h
                        · have h1 := HU.out.symm.trans hu; cases h1; exact ES.out), rfl⟩
                    case measure => simp [intOf]; omega
                · have HX := hid (any_end (f := fun m : Int => !below m 16) (xs := ms) fun n u hu => HZ3.out n u hu (by have := (List.getElem?_eq_some_iff.1 hu).1; omega))
                  go_wp2_with fail
                  go_roundw
                  case rel => exact ⟨k + 1, ⟨_, (by (with_reducible repeat' (first | exact Hid.out (by assumption) | exact Below.refl _ _ | exact Nat.le_refl _ | refine Below.alloc ?_ ?_ _ | refine below_ext _ ?_ ?_ | refine Below.drew ?_ | refine Below.setCell ?_ ?_ _ | refine le_alloc ?_ | refine Ext.le_size _ ?_ | refine le_drew ?_ | refine le_setCell ?_)); (all_goals (first | omega | (simp; done) | (simp; omega))))⟩, by omega, by go_num, hid (fun n u hn hu => by
                      rcases Nat.lt_succ_iff_lt_or_eq.1 hn with h | rfl
                      · exact HZ.out n u h hu
                      · have h1 := HY.out.symm.trans hu; cases h1; rw [HF3.out, HX.out]; rfl), rfl⟩
                  case measure => simp [intOf]; omega
    · go_wp2_with fail
      go_ret
      exact ⟨ret_int (fe_none fun j u hu => HZ.out j u (by have := (List.getElem?_eq_some_iff.1 hu).1; omega) hu), ((HW).out.trans (Below.mono (show Below V.heap.size V _ from (by (with_reducible repeat' (first | exact Hid.out (by assumption) | exact Below.refl _ _ | exact Nat.le_refl _ | refine Below.alloc ?_ ?_ _ | refine below_ext _ ?_ ?_ | refine Below.drew ?_ | refine Below.setCell ?_ ?_ _ | refine le_alloc ?_ | refine Ext.le_size _ ?_ | refine le_drew ?_ | refine le_setCell ?_)); (all_goals (first | omega | (simp; done) | (simp; omega))))) (by have := (HW).out.size; omega)))⟩
end Go.Proofs.YthagkijplklemaaGreatDoor
end
