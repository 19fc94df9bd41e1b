/- The law on the order: in a package that Check accepts classes extend earlier ones only, and what methods name exists. -/
import Derived.Test.YthagkijplklemaaGreatDoorM35
import Derived.Test.YthagkijplklemaaGreatDoorM27
import Derived.BigGuardPart
section
namespace Go.Proofs.YthagkijplklemaaGreatDoor
open Go.ChangeShapes Go.WideShapes Go.ChangeAt Go.RowKit Go.Sc
/-- What Check says of the classes and methods that it accepts. -/
theorem check_parts {p : Pk} (h : checkE p = 0) : (∀ (k : Nat) (x : Cl), p.classes.xs[k]? = some x → clsE p k x = 0) ∧ (∀ (k : Nat) (x : Me), p.methods.xs[k]? = some x → metE p x = 0) := by
  unfold checkE at h
  split at h
  · cases h
  · split at h
    · cases h
    · split at h
      · cases h
      · unfold partsE at h
        split at h
        · split at h
          · rename_i h2
            split at h
            · rename_i h3
              exact ⟨fun k x hx => by simpa using firstE_zero h2 k x hx, fun k x hx => by simpa using firstE_zero h3 k x hx⟩
            · contradiction
          · contradiction
        · contradiction
theorem below_zero {ni nc : Nat} {r : Rf} {n : Int} (h : belowE ni nc r n = 0) : ¬ r.p = 0 ∨ (r.p = 0 ∧ r.c < n) := by
  unfold belowE at h
  split at h
  · split at h
    · cases h
    · rename_i g
      by_cases e : r.p = 0
      · exact .inr ⟨e, by apply Int.not_le.1; intro h'; exact g ⟨e, h'⟩⟩
      · exact .inl e
  · cases h
theorem cls_parts {p : Pk} {k : Int} {x : Cl} (h : clsE p k x = 0) : (¬ x.super.p = 0 ∨ (x.super.p = 0 ∧ x.super.c < k)) ∧ (∀ (j : Nat) (r : Rf), x.ext.xs[j]? = some r → ¬ r.p = 0 ∨ (r.p = 0 ∧ r.c < k)) ∧
    ∀ (j : Nat) (m : Int), x.virt.xs[j]? = some m → (m < 0 ∧ m < p.methods.xs.length) ∨ ∃ (i : Nat) (me : Me), m = i ∧ p.methods.xs[i]? = some me ∧ me.cls = k := by
  unfold clsE at h
  split at h
  · rename_i h0
    split at h
    · cases h
    · split at h
      · cases h
      · split at h
        · rename_i h1
          split at h
          · split at h
            · rename_i h3
              refine ⟨below_zero h0, fun j r hr => below_zero (firstE_zero h1 j r hr), fun j m hm => ?_⟩
              have hv := firstE_zero h3 j m hm
              simp only [Nat.zero_add] at hv
              unfold virtE at hv
              split at hv
              · rename_i e
                exact .inl ⟨by omega, by omega⟩
              · split at hv
                · rename_i hr
                  obtain ⟨i, rfl⟩ := Int.eq_ofNat_of_zero_le hr.1
                  rw [Int.toNat_natCast] at hv
                  split at hv
                  · rename_i me hme
                    split at hv
                    · cases hv
                    · rename_i g
                      refine .inr ⟨i, me, rfl, hme, ?_⟩
                      apply Classical.byContradiction
                      intro e
                      exact g (.inr e)
                  · rename_i hme
                    have : i < p.methods.xs.length := by omega
                    rw [List.getElem?_eq_getElem this] at hme
                    cases hme
                · cases hv
            · contradiction
          · cases h
        · contradiction
  · contradiction
theorem met_named {p : Pk} {m : Me} (h : metE p m = 0) : ∀ i ∈ m.code.xs, named p m.code.xs.length i = true := by
  unfold metE at h
  split at h
  · cases h
  · split at h
    · cases h
    · split at h
      · cases h
      · split at h
        · cases h
        · split at h
          · split at h
            · cases h
            · rename_i hz
              have hc : m.code.xs = [] := List.eq_nil_of_length_eq_zero (by omega)
              simp [hc]
          · split at h
            · cases h
            · split at h
              · cases h
              · split at h
                · cases h
                · split at h
                  · rename_i hz
                    intro i hi
                    obtain ⟨j, hj⟩ := List.mem_iff_getElem?.1 hi
                    have := firstE_zero hz j i hj
                    unfold instrE at this
                    split at this
                    · split at this
                      · assumption
                      · cases this
                    · contradiction
                  · contradiction
theorem named_parts {p : Pk} {nc : Nat} {i : In} (h : named p nc i = true) : (21 ≤ i.op ∧ i.op ≤ 32 ∧ 0 ≤ i.a ∧ i.a < nc) ∨ ((i.op < 21 ∨ 32 < i.op) ∧ (¬ i.op = 44 ∨ (i.op = 44 ∧ 0 ≤ i.a ∧ i.a < p.statics.xs.length))) := by
  unfold named at h
  split at h
  · rename_i g
    rw [below_iff] at h
    exact .inl ⟨g.1, g.2, h.1, h.2⟩
  · rename_i g
    refine .inr ⟨by omega, ?_⟩
    split at h
    · rename_i g2
      rw [below_iff] at h
      by_cases e : i.op = 44
      · exact .inr ⟨e, h.1, h.2⟩
      · exact .inl e
    · rename_i g2
      exact .inl fun e => g2 (.inl e)
set_option maxRecDepth 100000 in
set_option maxHeartbeats 4000000 in
theorem order_no (p : Pk) (w : World) (hp : Hid (p.Ok w)) (hg : Hid (ObjAt w 0)) (hc : ¬ checkE p = 0) : Gives Tryz.prog 9 #[p.v] w (.bool true) := by
  obtain ⟨c, h⟩ : ∃ c, c = checkE p := ⟨_, rfl⟩
  have hC : Hid (∀ W : World, p.Ok W → ObjAt W 0 → Gives Tryz.prog 12 #[p.v] W (.int .i64 c)) := fun W h1 k => by rw [h]; exact check_any p W h1 k
  rw [← h] at hc
  have hz : (c != 0) = true := by simp [hc]
  clear h hc
  unfold Gives
  go_enter Tryz.func9, Tryz.ntmps9
  go_wp2_with (first | (go_at_call 10; refine (light_any p _ (hid (hp.out.mono (by repeat' (first | (with_reducible exact Below.refl _ _) | (with_reducible exact Nat.le_refl _) | (with_reducible refine Below.alloc ?_ ?_ _) | (with_reducible refine below_ext _ ?_ ?_) | (with_reducible refine Below.drew ?_) | (with_reducible refine Below.setCell ?_ ?_ _) | (with_reducible refine le_alloc ?_) | (with_reducible refine Ext.le_size _ ?_) | (with_reducible refine le_drew ?_) | (with_reducible refine le_setCell ?_)))))).mono ?_; rintro e w' ⟨lb, xl, rfl, rfl⟩; cases lb) | (go_at_call 12; refine (hC.out _ (hp.out.mono (by repeat' (first | (with_reducible exact Below.refl _ _) | (with_reducible exact Nat.le_refl _) | (with_reducible refine Below.alloc ?_ ?_ _) | (with_reducible refine below_ext _ ?_ ?_) | (with_reducible refine Below.drew ?_) | (with_reducible refine Below.setCell ?_ ?_ _) | (with_reducible refine le_alloc ?_) | (with_reducible refine Ext.le_size _ ?_) | (with_reducible refine le_drew ?_) | (with_reducible refine le_setCell ?_)))) (hg.out.mono (by repeat' (first | (with_reducible exact Below.refl _ _) | (with_reducible exact Nat.le_refl _) | (with_reducible refine Below.alloc ?_ ?_ _) | (with_reducible refine below_ext _ ?_ ?_) | (with_reducible refine Below.drew ?_) | (with_reducible refine Below.setCell ?_ ?_ _) | (with_reducible refine le_alloc ?_) | (with_reducible refine Ext.le_size _ ?_) | (with_reducible refine le_drew ?_) | (with_reducible refine le_setCell ?_))))).go.mono ?_; rintro e w' ⟨rfl, xw, rfl⟩) | (go_at_call 11; refine (example_any _ (hid (hg.out.mono (by repeat' (first | (with_reducible exact Below.refl _ _) | (with_reducible exact Nat.le_refl _) | (with_reducible refine Below.alloc ?_ ?_ _) | (with_reducible refine below_ext _ ?_ ?_) | (with_reducible refine Below.drew ?_) | (with_reducible refine Below.setCell ?_ ?_ _) | (with_reducible refine le_alloc ?_) | (with_reducible refine Ext.le_size _ ?_) | (with_reducible refine le_drew ?_) | (with_reducible refine le_setCell ?_)))))).go.mono ?_; rintro e w' ⟨rfl, xe, rfl⟩) | fail)
  all_goals
    go_ret
    exact ⟨rfl, (by repeat' (first | (with_reducible exact Below.refl _ _) | (with_reducible exact Nat.le_refl _) | (with_reducible refine Below.alloc ?_ ?_ _) | (with_reducible refine below_ext _ ?_ ?_) | (with_reducible refine Below.drew ?_) | (with_reducible refine Below.setCell ?_ ?_ _) | (with_reducible refine le_alloc ?_) | (with_reducible refine Ext.le_size _ ?_) | (with_reducible refine le_drew ?_) | (with_reducible refine le_setCell ?_)))⟩
set_option maxRecDepth 100000 in
set_option maxHeartbeats 4000000 in
theorem order_yes (p : Pk) (w : World) (hp : Hid (p.Ok w)) (hg : Hid (ObjAt w 0)) (hc : checkE p = 0) : Gives Tryz.prog 9 #[p.v] w (.bool true) := by
  have hC : Hid (∀ W : World, p.Ok W → ObjAt W 0 → Gives Tryz.prog 12 #[p.v] W (.int .i64 0)) := fun W h1 k => by have := check_any p W h1 k; rwa [hc] at this
  have hparts := hid (check_parts hc)
  have hle1 := hp.out.classes.le
  have hmx1 := hp.out.classes.max
  have hle2 := hp.out.methods.le
  have hmx2 := hp.out.methods.max
  have hle3 := hp.out.statics.le
  have hmx3 := hp.out.statics.max
  clear hc
  unfold Gives
  go_enter Tryz.func9, Tryz.ntmps9
  go_wp2_with (first | (go_at_call 10; refine (light_any p _ (hid (hp.out.mono (by repeat' (first | (with_reducible exact Below.refl _ _) | (with_reducible exact Nat.le_refl _) | (with_reducible refine Below.alloc ?_ ?_ _) | (with_reducible refine below_ext _ ?_ ?_) | (with_reducible refine Below.drew ?_) | (with_reducible refine Below.setCell ?_ ?_ _) | (with_reducible refine le_alloc ?_) | (with_reducible refine Ext.le_size _ ?_) | (with_reducible refine le_drew ?_) | (with_reducible refine le_setCell ?_)))))).mono ?_; rintro e w' ⟨lb, xl, rfl, rfl⟩; cases lb) | (go_at_call 12; refine (hC.out _ (hp.out.mono (by repeat' (first | (with_reducible exact Below.refl _ _) | (with_reducible exact Nat.le_refl _) | (with_reducible refine Below.alloc ?_ ?_ _) | (with_reducible refine below_ext _ ?_ ?_) | (with_reducible refine Below.drew ?_) | (with_reducible refine Below.setCell ?_ ?_ _) | (with_reducible refine le_alloc ?_) | (with_reducible refine Ext.le_size _ ?_) | (with_reducible refine le_drew ?_) | (with_reducible refine le_setCell ?_)))) (hg.out.mono (by repeat' (first | (with_reducible exact Below.refl _ _) | (with_reducible exact Nat.le_refl _) | (with_reducible refine Below.alloc ?_ ?_ _) | (with_reducible refine below_ext _ ?_ ?_) | (with_reducible refine Below.drew ?_) | (with_reducible refine Below.setCell ?_ ?_ _) | (with_reducible refine le_alloc ?_) | (with_reducible refine Ext.le_size _ ?_) | (with_reducible refine le_drew ?_) | (with_reducible refine le_setCell ?_))))).go.mono ?_; rintro e w' ⟨rfl, xw, rfl⟩) | (go_at_call 11; refine (example_any _ (hid (hg.out.mono (by repeat' (first | (with_reducible exact Below.refl _ _) | (with_reducible exact Nat.le_refl _) | (with_reducible refine Below.alloc ?_ ?_ _) | (with_reducible refine below_ext _ ?_ ?_) | (with_reducible refine Below.drew ?_) | (with_reducible refine Below.setCell ?_ ?_ _) | (with_reducible refine le_alloc ?_) | (with_reducible refine Ext.le_size _ ?_) | (with_reducible refine le_drew ?_) | (with_reducible refine le_setCell ?_)))))).go.mono ?_; rintro e w' ⟨rfl, xe, rfl⟩) | fail)
  all_goals try (go_ret; exact ⟨rfl, (by repeat' (first | (with_reducible exact Below.refl _ _) | (with_reducible exact Nat.le_refl _) | (with_reducible refine Below.alloc ?_ ?_ _) | (with_reducible refine below_ext _ ?_ ?_) | (with_reducible refine Below.drew ?_) | (with_reducible refine Below.setCell ?_ ?_ _) | (with_reducible refine le_alloc ?_) | (with_reducible refine Ext.le_size _ ?_) | (with_reducible refine le_drew ?_) | (with_reducible refine le_setCell ?_)))⟩; done)
  go_loopw [3] (fun i wr => ∃ (k : Nat) (x : Ext (w.alloc (.cells #[.slice p.aid.a p.aid.xs.length p.aid.c, .int .i64 p.major, .int .i64 p.minor, .slice p.imports.a p.imports.xs.length p.imports.c, .slice p.classes.a p.classes.xs.length p.classes.c, .slice p.methods.a p.methods.xs.length p.methods.c, .slice p.statics.a p.statics.xs.length p.statics.c, .slice p.applets.a p.applets.xs.length p.applets.c] 29))), k ≤ p.classes.xs.length ∧ i = .int .i64 k ∧ wr = x.val) (fun i _ => p.classes.xs.length - (intOf i).toNat)
  case atStart => exact ⟨0, ⟨xw.val, (by repeat' (first | (with_reducible exact Below.refl _ _) | (with_reducible exact Nat.le_refl _) | (with_reducible refine Below.alloc ?_ ?_ _) | (with_reducible refine below_ext _ ?_ ?_) | (with_reducible refine Below.drew ?_) | (with_reducible refine Below.setCell ?_ ?_ _) | (with_reducible refine le_alloc ?_) | (with_reducible refine Ext.le_size _ ?_) | (with_reducible refine le_drew ?_) | (with_reducible refine le_setCell ?_)))⟩, Nat.zero_le _, rfl, rfl⟩
  case round =>
    obtain ⟨k, x, hk, rfl, rfl⟩ := hrel
    by_cases hlt : k < p.classes.xs.length
    · obtain ⟨y, hy⟩ := getElem?_of_lt hlt
      obtain ⟨hok, b, off, hba, hbl, hc⟩ := hp.out.classes.at_ k y hy
      have hcp := hid (cls_parts (hparts.out.1 k y hy))
      have HBA := hid hba
      have HOK := hid hok
      have h0 := hc 0 _ rfl; have h1 := hc 1 _ rfl; have h2 := hc 2 _ rfl; have h3 := hc 3 _ rfl; have h4 := hc 4 _ rfl; have h5 := hc 5 _ rfl; have h6 := hc 6 _ rfl; simp only [Nat.add_zero] at h0
      haveI : InW b w := ⟨hbl⟩
      have hk1 : (0 : Int) ≤ (k : Int) := by omega
      have hk2 : (k : Int) < (p.classes.xs.length : Int) := by omega
      have hel := HOK.out.ext.le
      have hem := HOK.out.ext.max
      have hvl := HOK.out.virt.le
      have hvm := HOK.out.virt.max
      clear hy hok hc hbl
      rcases hcp.out.1 with hs | ⟨hs, hs2⟩
      · have hs' : (y.super.p == 0) = false := by simp [hs]
        clear hs
        go_wp2_with fail
        go_loopw [5] (fun i wr => ∃ (j : Nat) (x1 : Ext (x.val.alloc (.cells #[.int .i64 y.super.p, .int .i64 y.super.c, .bool y.isI, .slice y.ext.a y.ext.xs.length y.ext.c, .slice y.fields.a y.fields.xs.length y.fields.c, .slice y.virt.a y.virt.xs.length y.virt.c, .slice y.impls.a y.impls.xs.length y.impls.c] 49))), j ≤ y.ext.xs.length ∧ i = .int .i64 j ∧ wr = x1.val) (fun i _ => y.ext.xs.length - (intOf i).toNat)
        case atStart => exact ⟨0, ⟨_, Below.refl _ _⟩, Nat.zero_le _, rfl, rfl⟩
        case round =>
          obtain ⟨j, x1, hj, rfl, rfl⟩ := hrel
          by_cases hjt : j < y.ext.xs.length
          · obtain ⟨r, hr⟩ := getElem?_of_lt hjt
            obtain ⟨_, c1, off1, hba1, hbl1, hc1⟩ := HOK.out.ext.at_ j r hr
            have hrp := hcp.out.2.1 j r hr
            have HBA1 := hid hba1
            have g0 := hc1 0 _ rfl; have g1 := hc1 1 _ rfl; simp only [Nat.add_zero] at g0
            haveI : InW c1 w := ⟨hbl1⟩
            have hj1 : (0 : Int) ≤ (j : Int) := by omega
            have hj2 : (j : Int) < (y.ext.xs.length : Int) := by omega
            clear hr hc1 hbl1
            rcases hrp with hs3 | ⟨hs3, hs4⟩
            · have hs5 : (r.p == 0) = false := by simp [hs3]
              clear hs3
              go_wp2_with fail
              go_roundw
              case rel => exact ⟨j + 1, x1, by omega, by go_num, rfl⟩
              case measure => simp [intOf]; omega
            · have hs5 : (r.p == 0) = true := by simp [hs3]
              clear hs3
              go_wp2_with fail
              go_roundw
              case rel => exact ⟨j + 1, x1, by omega, by go_num, rfl⟩
              case measure => simp [intOf]; omega
          · go_wp2_with fail
            go_loopw [6] (fun i wr => ∃ (j : Nat) (x1 : Ext (x.val.alloc (.cells #[.int .i64 y.super.p, .int .i64 y.super.c, .bool y.isI, .slice y.ext.a y.ext.xs.length y.ext.c, .slice y.fields.a y.fields.xs.length y.fields.c, .slice y.virt.a y.virt.xs.length y.virt.c, .slice y.impls.a y.impls.xs.length y.impls.c] 49))), j ≤ y.virt.xs.length ∧ i = .int .i64 j ∧ wr = x1.val) (fun i _ => y.virt.xs.length - (intOf i).toNat)
            case atStart => exact ⟨0, x1, Nat.zero_le _, rfl, rfl⟩
            case round =>
              clear hj hjt
              obtain ⟨j, x1, hj, rfl, rfl⟩ := hrel
              by_cases hjt : j < y.virt.xs.length
              · obtain ⟨v, hv⟩ := getElem?_of_lt hjt
                obtain ⟨_, c1, off1, hba1, hbl1, hc1⟩ := HOK.out.virt.at_ j v hv
                have hvp := hcp.out.2.2 j v hv
                have HBA1 := hid hba1
                have g0 := hc1 0 _ rfl; simp only [Nat.add_zero, Nat.mul_one] at g0
                haveI : InW c1 w := ⟨hbl1⟩
                have hj1 : (0 : Int) ≤ (j : Int) := by omega
                have hj2 : (j : Int) < (y.virt.xs.length : Int) := by omega
                clear hv hc1 hbl1
                rcases hvp with ⟨v0, v1⟩ | ⟨i, me, rfl, hme, hcls⟩
                · have hd1 : decide ((p.methods.xs.length : Int) ≤ v) = false := by simp; omega
                  have hd2 : decide (0 ≤ v) = false := by simp; omega
                  go_wp2_with fail
                  refine wp_region_ext (by kernel_rfl) (by kernel_rfl) ?_; (repeat (go_big_quiet_step (fail))); refine wpQuiet_nil ?_; intro xw
                  go_wp2_with fail
                  go_roundw
                  case rel => exact ⟨j + 1, ⟨_, (by repeat' (first | (with_reducible exact Below.refl _ _) | (with_reducible exact Nat.le_refl _) | (with_reducible refine Below.alloc ?_ ?_ _) | (with_reducible refine below_ext _ ?_ ?_) | (with_reducible refine Below.drew ?_) | (with_reducible refine Below.setCell ?_ ?_ _) | (with_reducible refine le_alloc ?_) | (with_reducible refine Ext.le_size _ ?_) | (with_reducible refine le_drew ?_) | (with_reducible refine le_setCell ?_)))⟩, by omega, by go_num, rfl⟩
                  case measure => simp [intOf]; omega
                · obtain ⟨_, d1, off2, hba2, hbl2, hd1⟩ := hp.out.methods.at_ i me hme
                  have hi2 : (i : Int) < (p.methods.xs.length : Int) := by have := (List.getElem?_eq_some_iff.1 hme).1; omega
                  have hi1 : (0 : Int) ≤ (i : Int) := by omega
                  have HBA2 := hid hba2
                  have q0 := hd1 0 _ rfl; have q1 := hd1 1 _ rfl; have q2 := hd1 2 _ rfl; have q3 := hd1 3 _ rfl; have q4 := hd1 4 _ rfl; have q5 := hd1 5 _ rfl; have q6 := hd1 6 _ rfl; have q7 := hd1 7 _ rfl; have q8 := hd1 8 _ rfl; have q9 := hd1 9 _ rfl; have q10 := hd1 10 _ rfl; simp only [Nat.add_zero] at q0
                  haveI : InW d1 w := ⟨hbl2⟩
                  have hcls' : (me.cls != (k : Int)) = false := by simp [hcls]
                  have HCLS := hid hcls
                  have hde : decide (p.methods.xs.length ≤ i) = false := by simp; omega
                  clear hme hd1 hbl2 hcls
                  go_wp2_with fail
                  refine wp_region_ext (by kernel_rfl) (by kernel_rfl) ?_; (repeat (go_big_quiet_step (fail))); refine wpQuiet_nil ?_; intro xw
                  go_wp2_with fail
                  go_roundw
                  case rel => exact ⟨j + 1, ⟨_, (by repeat' (first | (with_reducible exact Below.refl _ _) | (with_reducible exact Nat.le_refl _) | (with_reducible refine Below.alloc ?_ ?_ _) | (with_reducible refine below_ext _ ?_ ?_) | (with_reducible refine Below.drew ?_) | (with_reducible refine Below.setCell ?_ ?_ _) | (with_reducible refine le_alloc ?_) | (with_reducible refine Ext.le_size _ ?_) | (with_reducible refine le_drew ?_) | (with_reducible refine le_setCell ?_)))⟩, by omega, by go_num, rfl⟩
                  case measure => simp [intOf]; omega
              · go_wp2_with fail
                exact ⟨⟨k + 1, ⟨_, (by repeat' (first | (with_reducible exact Below.refl _ _) | (with_reducible exact Nat.le_refl _) | (with_reducible refine Below.alloc ?_ ?_ _) | (with_reducible refine below_ext _ ?_ ?_) | (with_reducible refine Below.drew ?_) | (with_reducible refine Below.setCell ?_ ?_ _) | (with_reducible refine le_alloc ?_) | (with_reducible refine Ext.le_size _ ?_) | (with_reducible refine le_drew ?_) | (with_reducible refine le_setCell ?_)))⟩, by omega, by go_num, rfl⟩, by simp [intOf]; omega⟩
      · have hs' : (y.super.p == 0) = true := by simp [hs]
        clear hs
        go_wp2_with fail
        go_loopw [5] (fun i wr => ∃ (j : Nat) (x1 : Ext (x.val.alloc (.cells #[.int .i64 y.super.p, .int .i64 y.super.c, .bool y.isI, .slice y.ext.a y.ext.xs.length y.ext.c, .slice y.fields.a y.fields.xs.length y.fields.c, .slice y.virt.a y.virt.xs.length y.virt.c, .slice y.impls.a y.impls.xs.length y.impls.c] 49))), j ≤ y.ext.xs.length ∧ i = .int .i64 j ∧ wr = x1.val) (fun i _ => y.ext.xs.length - (intOf i).toNat)
        case atStart => exact ⟨0, ⟨_, Below.refl _ _⟩, Nat.zero_le _, rfl, rfl⟩
        case round =>
          obtain ⟨j, x1, hj, rfl, rfl⟩ := hrel
          by_cases hjt : j < y.ext.xs.length
          · obtain ⟨r, hr⟩ := getElem?_of_lt hjt
            obtain ⟨_, c1, off1, hba1, hbl1, hc1⟩ := HOK.out.ext.at_ j r hr
            have hrp := hcp.out.2.1 j r hr
            have HBA1 := hid hba1
            have g0 := hc1 0 _ rfl; have g1 := hc1 1 _ rfl; simp only [Nat.add_zero] at g0
            haveI : InW c1 w := ⟨hbl1⟩
            have hj1 : (0 : Int) ≤ (j : Int) := by omega
            have hj2 : (j : Int) < (y.ext.xs.length : Int) := by omega
            clear hr hc1 hbl1
            rcases hrp with hs3 | ⟨hs3, hs4⟩
            · have hs5 : (r.p == 0) = false := by simp [hs3]
              clear hs3
              go_wp2_with fail
              go_roundw
              case rel => exact ⟨j + 1, x1, by omega, by go_num, rfl⟩
              case measure => simp [intOf]; omega
            · have hs5 : (r.p == 0) = true := by simp [hs3]
              clear hs3
              go_wp2_with fail
              go_roundw
              case rel => exact ⟨j + 1, x1, by omega, by go_num, rfl⟩
              case measure => simp [intOf]; omega
          · go_wp2_with fail
            go_loopw [6] (fun i wr => ∃ (j : Nat) (x1 : Ext (x.val.alloc (.cells #[.int .i64 y.super.p, .int .i64 y.super.c, .bool y.isI, .slice y.ext.a y.ext.xs.length y.ext.c, .slice y.fields.a y.fields.xs.length y.fields.c, .slice y.virt.a y.virt.xs.length y.virt.c, .slice y.impls.a y.impls.xs.length y.impls.c] 49))), j ≤ y.virt.xs.length ∧ i = .int .i64 j ∧ wr = x1.val) (fun i _ => y.virt.xs.length - (intOf i).toNat)
            case atStart => exact ⟨0, x1, Nat.zero_le _, rfl, rfl⟩
            case round =>
              clear hj hjt
              obtain ⟨j, x1, hj, rfl, rfl⟩ := hrel
              by_cases hjt : j < y.virt.xs.length
              · obtain ⟨v, hv⟩ := getElem?_of_lt hjt
                obtain ⟨_, c1, off1, hba1, hbl1, hc1⟩ := HOK.out.virt.at_ j v hv
                have hvp := hcp.out.2.2 j v hv
                have HBA1 := hid hba1
                have g0 := hc1 0 _ rfl; simp only [Nat.add_zero, Nat.mul_one] at g0
                haveI : InW c1 w := ⟨hbl1⟩
                have hj1 : (0 : Int) ≤ (j : Int) := by omega
                have hj2 : (j : Int) < (y.virt.xs.length : Int) := by omega
                clear hv hc1 hbl1
                rcases hvp with ⟨v0, v1⟩ | ⟨i, me, rfl, hme, hcls⟩
                · have hd1 : decide ((p.methods.xs.length : Int) ≤ v) = false := by simp; omega
                  have hd2 : decide (0 ≤ v) = false := by simp; omega
                  go_wp2_with fail
                  refine wp_region_ext (by kernel_rfl) (by kernel_rfl) ?_; (repeat (go_big_quiet_step (fail))); refine wpQuiet_nil ?_; intro xw
                  go_wp2_with fail
                  go_roundw
                  case rel => exact ⟨j + 1, ⟨_, (by repeat' (first | (with_reducible exact Below.refl _ _) | (with_reducible exact Nat.le_refl _) | (with_reducible refine Below.alloc ?_ ?_ _) | (with_reducible refine below_ext _ ?_ ?_) | (with_reducible refine Below.drew ?_) | (with_reducible refine Below.setCell ?_ ?_ _) | (with_reducible refine le_alloc ?_) | (with_reducible refine Ext.le_size _ ?_) | (with_reducible refine le_drew ?_) | (with_reducible refine le_setCell ?_)))⟩, by omega, by go_num, rfl⟩
                  case measure => simp [intOf]; omega
                · obtain ⟨_, d1, off2, hba2, hbl2, hd1⟩ := hp.out.methods.at_ i me hme
                  have hi2 : (i : Int) < (p.methods.xs.length : Int) := by have := (List.getElem?_eq_some_iff.1 hme).1; omega
                  have hi1 : (0 : Int) ≤ (i : Int) := by omega
                  have HBA2 := hid hba2
                  have q0 := hd1 0 _ rfl; have q1 := hd1 1 _ rfl; have q2 := hd1 2 _ rfl; have q3 := hd1 3 _ rfl; have q4 := hd1 4 _ rfl; have q5 := hd1 5 _ rfl; have q6 := hd1 6 _ rfl; have q7 := hd1 7 _ rfl; have q8 := hd1 8 _ rfl; have q9 := hd1 9 _ rfl; have q10 := hd1 10 _ rfl; simp only [Nat.add_zero] at q0
                  haveI : InW d1 w := ⟨hbl2⟩
                  have hcls' : (me.cls != (k : Int)) = false := by simp [hcls]
                  have HCLS := hid hcls
                  have hde : decide (p.methods.xs.length ≤ i) = false := by simp; omega
                  clear hme hd1 hbl2 hcls
                  go_wp2_with fail
                  refine wp_region_ext (by kernel_rfl) (by kernel_rfl) ?_; (repeat (go_big_quiet_step (fail))); refine wpQuiet_nil ?_; intro xw
                  go_wp2_with fail
                  go_roundw
                  case rel => exact ⟨j + 1, ⟨_, (by repeat' (first | (with_reducible exact Below.refl _ _) | (with_reducible exact Nat.le_refl _) | (with_reducible refine Below.alloc ?_ ?_ _) | (with_reducible refine below_ext _ ?_ ?_) | (with_reducible refine Below.drew ?_) | (with_reducible refine Below.setCell ?_ ?_ _) | (with_reducible refine le_alloc ?_) | (with_reducible refine Ext.le_size _ ?_) | (with_reducible refine le_drew ?_) | (with_reducible refine le_setCell ?_)))⟩, by omega, by go_num, rfl⟩
                  case measure => simp [intOf]; omega
              · go_wp2_with fail
                exact ⟨⟨k + 1, ⟨_, (by repeat' (first | (with_reducible exact Below.refl _ _) | (with_reducible exact Nat.le_refl _) | (with_reducible refine Below.alloc ?_ ?_ _) | (with_reducible refine below_ext _ ?_ ?_) | (with_reducible refine Below.drew ?_) | (with_reducible refine Below.setCell ?_ ?_ _) | (with_reducible refine le_alloc ?_) | (with_reducible refine Ext.le_size _ ?_) | (with_reducible refine le_drew ?_) | (with_reducible refine le_setCell ?_)))⟩, by omega, by go_num, rfl⟩, by simp [intOf]; omega⟩
    · go_wp2_with fail
      go_loopw [7] (fun i wr => ∃ (k : Nat) (x : Ext (w.alloc (.cells #[.slice p.aid.a p.aid.xs.length p.aid.c, .int .i64 p.major, .int .i64 p.minor, .slice p.imports.a p.imports.xs.length p.imports.c, .slice p.classes.a p.classes.xs.length p.classes.c, .slice p.methods.a p.methods.xs.length p.methods.c, .slice p.statics.a p.statics.xs.length p.statics.c, .slice p.applets.a p.applets.xs.length p.applets.c] 29))), k ≤ p.methods.xs.length ∧ i = .int .i64 k ∧ wr = x.val) (fun i _ => p.methods.xs.length - (intOf i).toNat)
      case atStart => exact ⟨0, x, Nat.zero_le _, rfl, rfl⟩
      case round =>
        clear hk hlt
        obtain ⟨k, x, hk, rfl, rfl⟩ := hrel
        by_cases hlt : k < p.methods.xs.length
        · obtain ⟨y, hy⟩ := getElem?_of_lt hlt
          obtain ⟨hok, b, off, hba, hbl, hc⟩ := hp.out.methods.at_ k y hy
          have hcp := hid (met_named (hparts.out.2 k y hy))
          have HBA := hid hba
          have HOK := hid hok
          have h0 := hc 0 _ rfl; have h1 := hc 1 _ rfl; have h2 := hc 2 _ rfl; have h3 := hc 3 _ rfl; have h4 := hc 4 _ rfl; have h5 := hc 5 _ rfl; have h6 := hc 6 _ rfl; have h7 := hc 7 _ rfl; have h8 := hc 8 _ rfl; have h9 := hc 9 _ rfl; have h10 := hc 10 _ rfl; simp only [Nat.add_zero] at h0
          haveI : InW b w := ⟨hbl⟩
          have hk1 : (0 : Int) ≤ (k : Int) := by omega
          have hk2 : (k : Int) < (p.methods.xs.length : Int) := by omega
          have hel := HOK.out.code.le
          have hem := HOK.out.code.max
          clear hy hok hc hbl
          go_wp2_with fail
          go_loopw [9] (fun i wr => ∃ (j : Nat) (x1 : Ext (x.val.alloc (.cells #[.bool y.static, .bool y.abs, .int .i64 y.cls, .slice y.params.a y.params.xs.length y.params.c, .int .i64 y.result.k, .int .i64 y.result.c.p, .int .i64 y.result.c.c, .int .i64 y.locals, .int .i64 y.stack, .slice y.code.a y.code.xs.length y.code.c, .slice y.hs.a y.hs.xs.length y.hs.c] 55))), j ≤ y.code.xs.length ∧ i = .int .i64 j ∧ wr = x1.val) (fun i _ => y.code.xs.length - (intOf i).toNat)
          case atStart => exact ⟨0, ⟨_, Below.refl _ _⟩, Nat.zero_le _, rfl, rfl⟩
          case round =>
            obtain ⟨j, x1, hj, rfl, rfl⟩ := hrel
            by_cases hjt : j < y.code.xs.length
            · obtain ⟨r, hr⟩ := getElem?_of_lt hjt
              obtain ⟨_, c1, off1, hba1, hbl1, hc1⟩ := HOK.out.code.at_ j r hr
              have hrp := named_parts (hcp.out r (List.mem_of_getElem? hr))
              have HBA1 := hid hba1
              obtain ⟨ro, ra, rb, rc⟩ := r
              simp only at hrp
              have g0 := hc1 0 _ rfl; have g1 := hc1 1 _ rfl; have g2 := hc1 2 _ rfl; have g3 := hc1 3 _ rfl; simp only [Nat.add_zero] at g0
              haveI : InW c1 w := ⟨hbl1⟩
              have hj1 : (0 : Int) ≤ (j : Int) := by omega
              have hj2 : (j : Int) < (y.code.xs.length : Int) := by omega
              clear hr hc1 hbl1
              rcases hrp with ⟨g1', g2', g3', g4'⟩ | ⟨gg, gs⟩
              ·
                go_wp2_with fail
                go_roundw
                case rel => exact ⟨j + 1, ⟨x1.val.alloc (.cells #[.int .i64 ro, .int .i64 ra, .int .i64 rb, .int .i64 rc] 57), (by repeat' (first | (with_reducible exact Below.refl _ _) | (with_reducible exact Nat.le_refl _) | (with_reducible refine Below.alloc ?_ ?_ _) | (with_reducible refine below_ext _ ?_ ?_) | (with_reducible refine Below.drew ?_) | (with_reducible refine Below.setCell ?_ ?_ _) | (with_reducible refine le_alloc ?_) | (with_reducible refine Ext.le_size _ ?_) | (with_reducible refine le_drew ?_) | (with_reducible refine le_setCell ?_)))⟩, by omega, by go_num, rfl⟩
                case measure => simp [intOf]; omega
              · rcases gg with gg | gg
                · rcases gs with gs | ⟨gs, gs1, gs2⟩
                  · have gs' : (ro == 44) = false := by simp [gs]
                    clear gs
                    go_wp2_with fail
                    go_roundw
                    case rel => exact ⟨j + 1, ⟨x1.val.alloc (.cells #[.int .i64 ro, .int .i64 ra, .int .i64 rb, .int .i64 rc] 57), (by repeat' (first | (with_reducible exact Below.refl _ _) | (with_reducible exact Nat.le_refl _) | (with_reducible refine Below.alloc ?_ ?_ _) | (with_reducible refine below_ext _ ?_ ?_) | (with_reducible refine Below.drew ?_) | (with_reducible refine Below.setCell ?_ ?_ _) | (with_reducible refine le_alloc ?_) | (with_reducible refine Ext.le_size _ ?_) | (with_reducible refine le_drew ?_) | (with_reducible refine le_setCell ?_)))⟩, by omega, by go_num, rfl⟩
                    case measure => simp [intOf]; omega
                  · exfalso
                    omega
                · have gg2 : (21 : Int) ≤ ro := by omega
                  rcases gs with gs | ⟨gs, gs1, gs2⟩
                  · have gs' : (ro == 44) = false := by simp [gs]
                    clear gs
                    go_wp2_with fail
                    go_roundw
                    case rel => exact ⟨j + 1, ⟨x1.val.alloc (.cells #[.int .i64 ro, .int .i64 ra, .int .i64 rb, .int .i64 rc] 57), (by repeat' (first | (with_reducible exact Below.refl _ _) | (with_reducible exact Nat.le_refl _) | (with_reducible refine Below.alloc ?_ ?_ _) | (with_reducible refine below_ext _ ?_ ?_) | (with_reducible refine Below.drew ?_) | (with_reducible refine Below.setCell ?_ ?_ _) | (with_reducible refine le_alloc ?_) | (with_reducible refine Ext.le_size _ ?_) | (with_reducible refine le_drew ?_) | (with_reducible refine le_setCell ?_)))⟩, by omega, by go_num, rfl⟩
                    case measure => simp [intOf]; omega
                  · subst gs
                    go_wp2_with fail
                    exact ⟨⟨j + 1, ⟨x1.val.alloc (.cells #[.int .i64 44, .int .i64 ra, .int .i64 rb, .int .i64 rc] 57), (by repeat' (first | (with_reducible exact Below.refl _ _) | (with_reducible exact Nat.le_refl _) | (with_reducible refine Below.alloc ?_ ?_ _) | (with_reducible refine below_ext _ ?_ ?_) | (with_reducible refine Below.drew ?_) | (with_reducible refine Below.setCell ?_ ?_ _) | (with_reducible refine le_alloc ?_) | (with_reducible refine Ext.le_size _ ?_) | (with_reducible refine le_drew ?_) | (with_reducible refine le_setCell ?_)))⟩, by omega, by go_num, rfl⟩, by simp [intOf]; omega⟩
            · go_wp2_with fail
              exact ⟨⟨k + 1, ⟨_, (by repeat' (first | (with_reducible exact Below.refl _ _) | (with_reducible exact Nat.le_refl _) | (with_reducible refine Below.alloc ?_ ?_ _) | (with_reducible refine below_ext _ ?_ ?_) | (with_reducible refine Below.drew ?_) | (with_reducible refine Below.setCell ?_ ?_ _) | (with_reducible refine le_alloc ?_) | (with_reducible refine Ext.le_size _ ?_) | (with_reducible refine le_drew ?_) | (with_reducible refine le_setCell ?_)))⟩, by omega, by go_num, rfl⟩, by simp [intOf]; omega⟩
        · go_wp2_with (first | (go_at_call 11; refine (example_any _ (hid (hg.out.mono (by repeat' (first | (with_reducible exact Below.refl _ _) | (with_reducible exact Nat.le_refl _) | (with_reducible refine Below.alloc ?_ ?_ _) | (with_reducible refine below_ext _ ?_ ?_) | (with_reducible refine Below.drew ?_) | (with_reducible refine Below.setCell ?_ ?_ _) | (with_reducible refine le_alloc ?_) | (with_reducible refine Ext.le_size _ ?_) | (with_reducible refine le_drew ?_) | (with_reducible refine le_setCell ?_)))))).go.mono ?_; rintro e w' ⟨rfl, xe, rfl⟩) | fail)
          go_ret
          exact ⟨rfl, (by repeat' (first | (with_reducible exact Below.refl _ _) | (with_reducible exact Nat.le_refl _) | (with_reducible refine Below.alloc ?_ ?_ _) | (with_reducible refine below_ext _ ?_ ?_) | (with_reducible refine Below.drew ?_) | (with_reducible refine Below.setCell ?_ ?_ _) | (with_reducible refine le_alloc ?_) | (with_reducible refine Ext.le_size _ ?_) | (with_reducible refine le_drew ?_) | (with_reducible refine le_setCell ?_)))⟩
end Go.Proofs.YthagkijplklemaaGreatDoor
end
