/- The law's light: it answers true or false. -/
import Derived.Test.YthagkijplklemaaGreatDoorM32
import Derived.Lib.MinMax
section
namespace Go.Proofs.YthagkijplklemaaGreatDoor
open Go.ChangeShapes Go.WideShapes Go.ChangeAt Go.RowKit Go.Sc
def LightOut (w : World) (e : Ending) (w' : World) : Prop := ∃ (b : Bool) (x : Ext w), e = .returned (.bool b) ∧ w' = x.val
theorem LightOut.mk {w w' : World} {b : Bool} (h : Below w.heap.size w w') : LightOut w (.returned (.bool b)) w' := ⟨b, ⟨w', h⟩, rfl, rfl⟩
set_option maxRecDepth 100000 in
set_option maxHeartbeats 4000000 in
theorem light_any (p : Pk) (w : World) (hp : Hid (p.Ok w)) : Calls Tryz.prog 10 #[p.v] w (LightOut w) := by
  have hle1 := hp.out.classes.le
  have hmx1 := hp.out.classes.max
  have hle2 := hp.out.methods.le
  have hmx2 := hp.out.methods.max
  have hle3 := hp.out.imports.le
  have hmx3 := hp.out.imports.max
  have hle4 := hp.out.applets.le
  have hmx4 := hp.out.applets.max
  go_enter Tryz.func10, Tryz.ntmps10
  go_wp2_with fail
  all_goals try (go_ret; exact LightOut.mk (by with_reducible repeat' (first | exact Below.refl _ _ | exact Nat.le_refl _ | refine Below.alloc ?_ ?_ _ | refine below_ext _ ?_ ?_ | refine Below.drew ?_ | refine Below.setCell ?_ ?_ _ | refine le_alloc ?_ | refine Ext.le_size _ ?_ | refine le_drew ?_ | refine le_setCell ?_)); done)
  go_loopw [3, 4] (fun n i wr => ∃ (z : Int) (k : Nat) (x : Ext (w.alloc (.cells #[.slice p.aid.a p.aid.xs.length p.aid.c, .int .i64 p.major, .int .i64 p.minor, .slice p.imports.a p.imports.xs.length p.imports.c, .slice p.classes.a p.classes.xs.length p.classes.c, .slice p.methods.a p.methods.xs.length p.methods.c, .slice p.statics.a p.statics.xs.length p.statics.c, .slice p.applets.a p.applets.xs.length p.applets.c] 29))), k ≤ p.classes.xs.length ∧ n = .int .i64 z ∧ i = .int .i64 k ∧ wr = x.val) (fun _ i _ => p.classes.xs.length - (intOf i).toNat)
  case atStart => exact ⟨_, 0, ⟨_, Below.refl _ _⟩, Nat.zero_le _, rfl, rfl, rfl⟩
  case round =>
    obtain ⟨z, k, x, hk, rfl, rfl, rfl⟩ := hrel
    by_cases hlt : k < p.classes.xs.length
    · obtain ⟨y, hy⟩ := getElem?_of_lt hlt
      obtain ⟨hok, b, off, hba, hbl, hc⟩ := hp.out.classes.at_ k y hy
      have HBA := hid hba
      have HOK := hid hok
      have h0 := hc 0 _ rfl; have h1 := hc 1 _ rfl; have h2 := hc 2 _ rfl; have h3 := hc 3 _ rfl; have h4 := hc 4 _ rfl; have h5 := hc 5 _ rfl; have h6 := hc 6 _ rfl; simp only [Nat.add_zero] at h0
      haveI : InW b w := ⟨hbl⟩
      have hk1 : (0 : Int) ≤ (k : Int) := by omega
      have hk2 : (k : Int) < (p.classes.xs.length : Int) := by omega
      clear hy hok hc hbl
      go_wp2_with fail
      have hil := HOK.out.impls.le
      have him := HOK.out.impls.max
      go_loopw [3, 6] (fun n i wr => ∃ (z : Int) (j : Nat) (x1 : Ext (x.val.alloc (.cells #[.int .i64 y.super.p, .int .i64 y.super.c, .bool y.isI, .slice y.ext.a y.ext.xs.length y.ext.c, .slice y.fields.a y.fields.xs.length y.fields.c, .slice y.virt.a y.virt.xs.length y.virt.c, .slice y.impls.a y.impls.xs.length y.impls.c] 49))), j ≤ y.impls.xs.length ∧ n = .int .i64 z ∧ i = .int .i64 j ∧ wr = x1.val) (fun _ i _ => y.impls.xs.length - (intOf i).toNat)
      case atStart => exact ⟨_, 0, ⟨_, Below.refl _ _⟩, Nat.zero_le _, rfl, rfl, rfl⟩
      case round =>
        obtain ⟨z1, j, x1, hj, rfl, rfl, rfl⟩ := hrel
        by_cases hjt : j < y.impls.xs.length
        · obtain ⟨u, hu⟩ := getElem?_of_lt hjt
          obtain ⟨_, b1, off1, hba1, hbl1, hc1⟩ := HOK.out.impls.at_ j u hu
          have HBA1 := hid hba1
          have g0 := hc1 0 _ rfl; have g1 := hc1 1 _ rfl; have g2 := hc1 2 _ rfl; simp only [Nat.add_zero] at g0
          haveI : InW b1 w := ⟨hbl1⟩
          have hj1 : (0 : Int) ≤ (j : Int) := by omega
          have hj2 : (j : Int) < (y.impls.xs.length : Int) := by omega
          clear hu hc1 hbl1
          go_wp2_with fail
          all_goals first
            | exact ⟨⟨_, j + 1, ⟨_, (by with_reducible repeat' (first | exact Below.refl _ _ | exact Nat.le_refl _ | refine Below.alloc ?_ ?_ _ | refine below_ext _ ?_ ?_ | refine Below.drew ?_ | refine Below.setCell ?_ ?_ _ | refine le_alloc ?_ | refine Ext.le_size _ ?_ | refine le_drew ?_ | refine le_setCell ?_))⟩, by omega, rfl, by go_num, rfl⟩, by simp [intOf]; omega⟩
            | exact ⟨⟨_, k + 1, ⟨_, (by with_reducible repeat' (first | exact Below.refl _ _ | exact Nat.le_refl _ | refine Below.alloc ?_ ?_ _ | refine below_ext _ ?_ ?_ | refine Below.drew ?_ | refine Below.setCell ?_ ?_ _ | refine le_alloc ?_ | refine Ext.le_size _ ?_ | refine le_drew ?_ | refine le_setCell ?_))⟩, by omega, rfl, by go_num, rfl⟩, by simp [intOf]; omega⟩
        · go_wp2_with fail
          exact ⟨⟨_, k + 1, ⟨_, (by with_reducible repeat' (first | exact Below.refl _ _ | exact Nat.le_refl _ | refine Below.alloc ?_ ?_ _ | refine below_ext _ ?_ ?_ | refine Below.drew ?_ | refine Below.setCell ?_ ?_ _ | refine le_alloc ?_ | refine Ext.le_size _ ?_ | refine le_drew ?_ | refine le_setCell ?_))⟩, by omega, rfl, by go_num, rfl⟩, by simp [intOf]; omega⟩
    · go_wp2_with fail
      go_loopw [3, 7] (fun n i wr => ∃ (z : Int) (k : Nat) (x : Ext (w.alloc (.cells #[.slice p.aid.a p.aid.xs.length p.aid.c, .int .i64 p.major, .int .i64 p.minor, .slice p.imports.a p.imports.xs.length p.imports.c, .slice p.classes.a p.classes.xs.length p.classes.c, .slice p.methods.a p.methods.xs.length p.methods.c, .slice p.statics.a p.statics.xs.length p.statics.c, .slice p.applets.a p.applets.xs.length p.applets.c] 29))), k ≤ p.methods.xs.length ∧ n = .int .i64 z ∧ i = .int .i64 k ∧ wr = x.val) (fun _ i _ => p.methods.xs.length - (intOf i).toNat)
      case atStart => exact ⟨_, 0, x, Nat.zero_le _, rfl, rfl, rfl⟩
      case round =>
        clear hk
        obtain ⟨z, k, x, hk, rfl, rfl, rfl⟩ := hrel
        by_cases hlt : k < p.methods.xs.length
        · obtain ⟨y, hy⟩ := getElem?_of_lt hlt
          obtain ⟨hok, b, off, hba, hbl, hc⟩ := hp.out.methods.at_ k y hy
          have HBA := hid hba
          have h0 := hc 0 _ rfl; have h1 := hc 1 _ rfl; have h2 := hc 2 _ rfl; have h3 := hc 3 _ rfl; have h4 := hc 4 _ rfl; have h5 := hc 5 _ rfl; have h6 := hc 6 _ rfl; have h7 := hc 7 _ rfl; have h8 := hc 8 _ rfl; have h9 := hc 9 _ rfl; have h10 := hc 10 _ rfl; simp only [Nat.add_zero] at h0
          haveI : InW b w := ⟨hbl⟩
          have hk1 : (0 : Int) ≤ (k : Int) := by omega
          have hk2 : (k : Int) < (p.methods.xs.length : Int) := by omega
          clear hy hok hc hbl
          go_wp2_with fail
          go_roundw
          case rel => exact ⟨_, k + 1, ⟨x.val.alloc (.cells #[.bool y.static, .bool y.abs, .int .i64 y.cls, .slice y.params.a y.params.xs.length y.params.c, .int .i64 y.result.k, .int .i64 y.result.c.p, .int .i64 y.result.c.c, .int .i64 y.locals, .int .i64 y.stack, .slice y.code.a y.code.xs.length y.code.c, .slice y.hs.a y.hs.xs.length y.hs.c] 55), (by with_reducible repeat' (first | exact Below.refl _ _ | exact Nat.le_refl _ | refine Below.alloc ?_ ?_ _ | refine below_ext _ ?_ ?_ | refine Below.drew ?_ | refine Below.setCell ?_ ?_ _ | refine le_alloc ?_ | refine Ext.le_size _ ?_ | refine le_drew ?_ | refine le_setCell ?_))⟩, by omega, rfl, by go_num, rfl⟩
          case measure => simp [intOf]; omega
        · go_wp2_with fail
          go_loopw [3, 9] (fun n i wr => ∃ (z : Int) (k : Nat) (x : Ext (w.alloc (.cells #[.slice p.aid.a p.aid.xs.length p.aid.c, .int .i64 p.major, .int .i64 p.minor, .slice p.imports.a p.imports.xs.length p.imports.c, .slice p.classes.a p.classes.xs.length p.classes.c, .slice p.methods.a p.methods.xs.length p.methods.c, .slice p.statics.a p.statics.xs.length p.statics.c, .slice p.applets.a p.applets.xs.length p.applets.c] 29))), k ≤ p.imports.xs.length ∧ n = .int .i64 z ∧ i = .int .i64 k ∧ wr = x.val) (fun _ i _ => p.imports.xs.length - (intOf i).toNat)
          case atStart => exact ⟨_, 0, x, Nat.zero_le _, rfl, rfl, rfl⟩
          case round =>
            clear hk
            obtain ⟨z, k, x, hk, rfl, rfl, rfl⟩ := hrel
            by_cases hlt : k < p.imports.xs.length
            · obtain ⟨y, hy⟩ := getElem?_of_lt hlt
              obtain ⟨hok, b, off, hba, hbl, hc⟩ := hp.out.imports.at_ k y hy
              have HBA := hid hba
              have h0 := hc 0 _ rfl; have h1 := hc 1 _ rfl; have h2 := hc 2 _ rfl; simp only [Nat.add_zero] at h0
              haveI : InW b w := ⟨hbl⟩
              have hk1 : (0 : Int) ≤ (k : Int) := by omega
              have hk2 : (k : Int) < (p.imports.xs.length : Int) := by omega
              clear hy hok hc hbl
              go_wp2_with fail
              go_roundw
              case rel => exact ⟨_, k + 1, ⟨_, (by with_reducible repeat' (first | exact Below.refl _ _ | exact Nat.le_refl _ | refine Below.alloc ?_ ?_ _ | refine below_ext _ ?_ ?_ | refine Below.drew ?_ | refine Below.setCell ?_ ?_ _ | refine le_alloc ?_ | refine Ext.le_size _ ?_ | refine le_drew ?_ | refine le_setCell ?_))⟩, by omega, rfl, by go_num, rfl⟩
              case measure => simp [intOf]; omega
            · go_wp2_with fail
              go_loopw [3, 10] (fun n i wr => ∃ (z : Int) (k : Nat) (x : Ext (w.alloc (.cells #[.slice p.aid.a p.aid.xs.length p.aid.c, .int .i64 p.major, .int .i64 p.minor, .slice p.imports.a p.imports.xs.length p.imports.c, .slice p.classes.a p.classes.xs.length p.classes.c, .slice p.methods.a p.methods.xs.length p.methods.c, .slice p.statics.a p.statics.xs.length p.statics.c, .slice p.applets.a p.applets.xs.length p.applets.c] 29))), k ≤ p.applets.xs.length ∧ n = .int .i64 z ∧ i = .int .i64 k ∧ wr = x.val) (fun _ i _ => p.applets.xs.length - (intOf i).toNat)
              case atStart => exact ⟨_, 0, x, Nat.zero_le _, rfl, rfl, rfl⟩
              case round =>
                clear hk
                obtain ⟨z, k, x, hk, rfl, rfl, rfl⟩ := hrel
                by_cases hlt : k < p.applets.xs.length
                · obtain ⟨y, hy⟩ := getElem?_of_lt hlt
                  obtain ⟨hok, b, off, hba, hbl, hc⟩ := hp.out.applets.at_ k y hy
                  have HBA := hid hba
                  have h0 := hc 0 _ rfl; have h1 := hc 1 _ rfl; have h2 := hc 2 _ rfl; simp only [Nat.add_zero] at h0
                  haveI : InW b w := ⟨hbl⟩
                  have hk1 : (0 : Int) ≤ (k : Int) := by omega
                  have hk2 : (k : Int) < (p.applets.xs.length : Int) := by omega
                  clear hy hok hc hbl
                  go_wp2_with fail
                  go_roundw
                  case rel => exact ⟨_, k + 1, ⟨_, (by with_reducible repeat' (first | exact Below.refl _ _ | exact Nat.le_refl _ | refine Below.alloc ?_ ?_ _ | refine below_ext _ ?_ ?_ | refine Below.drew ?_ | refine Below.setCell ?_ ?_ _ | refine le_alloc ?_ | refine Ext.le_size _ ?_ | refine le_drew ?_ | refine le_setCell ?_))⟩, by omega, rfl, by go_num, rfl⟩
                  case measure => simp [intOf]; omega
                · go_wp2_with fail
                  go_ret
                  exact LightOut.mk (by with_reducible repeat' (first | exact Below.refl _ _ | exact Nat.le_refl _ | refine Below.alloc ?_ ?_ _ | refine below_ext _ ?_ ?_ | refine Below.drew ?_ | refine Below.setCell ?_ ?_ _ | refine le_alloc ?_ | refine Ext.le_size _ ?_ | refine le_drew ?_ | refine le_setCell ?_))
end Go.Proofs.YthagkijplklemaaGreatDoor
end
