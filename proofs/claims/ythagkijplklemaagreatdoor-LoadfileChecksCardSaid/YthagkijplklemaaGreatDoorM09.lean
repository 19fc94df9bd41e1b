/- Check of the program: a method, its ways. Check of the program: a method, its ways. Check of the program: applets. -/
import Derived.Test.YthagkijplklemaaGreatDoorM08
import Derived.Test.YthagkijplklemaaGreatDoorM07
section
namespace Go.Proofs.YthagkijplklemaaGreatDoor
open Go.ChangeShapes Go.WideShapes Go.ChangeAt Go.RowKit Go.Sc
set_option maxRecDepth 100000 in
set_option maxHeartbeats 4000000 in
theorem method_ftt (p : Pk) (m : Me) (k : Int) (w : World) (j : Nat) (c : Cl) (_hp : Hid (p.Ok w)) (hm : Hid (m.Ok w)) (hs : m.static = false) (ha : m.abs = true) (hj : m.cls = (j : Int)) (hcl : Hid (p.classes.xs[j]? = some c)) (hI : c.isI = true) :
    Gives Tryz.prog 105 #[p.v, .int .i64 k, m.v] w (.int .i64 (metE p m)) := by
  have hi := ins_first p m w.heap.size (w.heap.size + 1)
  have hh := hds_first m (w.heap.size + 1)
  have hle := hm.out.params.le
  have hmx := hm.out.params.max
  obtain ⟨hok, b, off, hba, hbl, hc⟩ := _hp.out.classes.at_ j c hcl.out
  have hl2 := (List.getElem?_eq_some_iff.1 hcl.out).1
  have hle2 := _hp.out.classes.le
  have hmx2 := _hp.out.classes.max
  have hj1 : (0 : Int) ≤ (j : Int) := by omega
  have hj2 : (j : Int) < (p.classes.xs.length : Int) := by omega
  have HBA := hid hba
  have h0 := hc 0 _ rfl; have h1 := hc 1 _ rfl; have h2 := hc 2 _ rfl; have h3 := hc 3 _ rfl; have h4 := hc 4 _ rfl; have h5 := hc 5 _ rfl; have h6 := hc 6 _ rfl; simp only [Nat.add_zero] at h0
  haveI : InW b w := ⟨hbl⟩
  clear hc hok
  have hcI : classI p (j : Int) = c.isI := by unfold classI; rw [Int.toNat_natCast, hcl.out]
  rw [hI] at h2 hcI
  have hbl2 : below (j : Int) (p.classes.xs.length : Int) = true := by unfold below; simp; omega
  have hbx := hid (boxPM w p m hs ha hj HBA.out 67 55)
  unfold Gives
  go_enter Tryz.func105, Tryz.ntmps105
  go_wp2_with (first | (go_at_call 111; refine (within_any _ _ _).go.mono ?_; rintro e w' ⟨rfl, xw, rfl⟩) | (go_at_call 106; refine (allUsable_za p (some ⟨b, off, none⟩) m.params _ (hm.out.params.mono (by with_reducible repeat' (first | exact Below.refl _ _ | exact Nat.le_refl _ | refine Below.alloc ?_ ?_ _ | refine below_ext _ ?_ ?_ | refine Below.drew ?_ | refine Below.setCell ?_ ?_ _ | refine le_alloc ?_ | refine Ext.le_size _ ?_ | refine le_drew ?_ | refine le_setCell ?_)))).go.mono ?_; rintro e w' ⟨rfl, xw, rfl⟩) | (go_at_call 167; refine (usable_za p (some ⟨b, off, none⟩) ⟨_, ⟨_, _⟩⟩ _).go.mono ?_; rintro e w' ⟨rfl, xw, rfl⟩) | (go_at_call 168; refine (hi.out _ (eMe.mono (by with_reducible repeat' (first | exact Below.refl _ _ | exact Nat.le_refl _ | refine Below.alloc ?_ ?_ _ | refine below_ext _ ?_ ?_ | refine Below.drew ?_ | refine Below.setCell ?_ ?_ _ | refine le_alloc ?_ | refine Ext.le_size _ ?_ | refine le_drew ?_ | refine le_setCell ?_)) hm.out) (hbx.out.1.mono (by with_reducible repeat' (first | exact Below.refl _ _ | exact Nat.le_refl _ | refine Below.alloc ?_ ?_ _ | refine below_ext _ ?_ ?_ | refine Below.drew ?_ | refine Below.setCell ?_ ?_ _ | refine le_alloc ?_ | refine Ext.le_size _ ?_ | refine le_drew ?_ | refine le_setCell ?_))) (hbx.out.2.mono (by with_reducible repeat' (first | exact Below.refl _ _ | exact Nat.le_refl _ | refine Below.alloc ?_ ?_ _ | refine below_ext _ ?_ ?_ | refine Below.drew ?_ | refine Below.setCell ?_ ?_ _ | refine le_alloc ?_ | refine Ext.le_size _ ?_ | refine le_drew ?_ | refine le_setCell ?_)))).go.mono ?_; rintro e w' ⟨rfl, xw, rfl⟩) | (go_at_call 171; refine (hh.out _ (eMe.mono (by with_reducible repeat' (first | exact Below.refl _ _ | exact Nat.le_refl _ | refine Below.alloc ?_ ?_ _ | refine below_ext _ ?_ ?_ | refine Below.drew ?_ | refine Below.setCell ?_ ?_ _ | refine le_alloc ?_ | refine Ext.le_size _ ?_ | refine le_drew ?_ | refine le_setCell ?_)) hm.out) (hbx.out.2.mono (by with_reducible repeat' (first | exact Below.refl _ _ | exact Nat.le_refl _ | refine Below.alloc ?_ ?_ _ | refine below_ext _ ?_ ?_ | refine Below.drew ?_ | refine Below.setCell ?_ ?_ _ | refine le_alloc ?_ | refine Ext.le_size _ ?_ | refine le_drew ?_ | refine le_setCell ?_)))).go.mono ?_; rintro e w' ⟨rfl, xw, rfl⟩))
  all_goals first
    | (exfalso; omega)
    | (with_reducible refine wp_region_ext (by kernel_rfl) (by kernel_rfl) ?_
       (repeat (go_big_quiet_step (fail)))
       refine wpQuiet_nil ?_
       intro xw
       go_wp2_with (first | (go_at_call 111; refine (within_any _ _ _).go.mono ?_; rintro e w' ⟨rfl, xw, rfl⟩) | (go_at_call 106; refine (allUsable_za p (some ⟨b, off, none⟩) m.params _ (hm.out.params.mono (by with_reducible repeat' (first | exact Below.refl _ _ | exact Nat.le_refl _ | refine Below.alloc ?_ ?_ _ | refine below_ext _ ?_ ?_ | refine Below.drew ?_ | refine Below.setCell ?_ ?_ _ | refine le_alloc ?_ | refine Ext.le_size _ ?_ | refine le_drew ?_ | refine le_setCell ?_)))).go.mono ?_; rintro e w' ⟨rfl, xw, rfl⟩) | (go_at_call 167; refine (usable_za p (some ⟨b, off, none⟩) ⟨_, ⟨_, _⟩⟩ _).go.mono ?_; rintro e w' ⟨rfl, xw, rfl⟩) | (go_at_call 168; refine (hi.out _ (eMe.mono (by with_reducible repeat' (first | exact Below.refl _ _ | exact Nat.le_refl _ | refine Below.alloc ?_ ?_ _ | refine below_ext _ ?_ ?_ | refine Below.drew ?_ | refine Below.setCell ?_ ?_ _ | refine le_alloc ?_ | refine Ext.le_size _ ?_ | refine le_drew ?_ | refine le_setCell ?_)) hm.out) (hbx.out.1.mono (by with_reducible repeat' (first | exact Below.refl _ _ | exact Nat.le_refl _ | refine Below.alloc ?_ ?_ _ | refine below_ext _ ?_ ?_ | refine Below.drew ?_ | refine Below.setCell ?_ ?_ _ | refine le_alloc ?_ | refine Ext.le_size _ ?_ | refine le_drew ?_ | refine le_setCell ?_))) (hbx.out.2.mono (by with_reducible repeat' (first | exact Below.refl _ _ | exact Nat.le_refl _ | refine Below.alloc ?_ ?_ _ | refine below_ext _ ?_ ?_ | refine Below.drew ?_ | refine Below.setCell ?_ ?_ _ | refine le_alloc ?_ | refine Ext.le_size _ ?_ | refine le_drew ?_ | refine le_setCell ?_)))).go.mono ?_; rintro e w' ⟨rfl, xw, rfl⟩) | (go_at_call 171; refine (hh.out _ (eMe.mono (by with_reducible repeat' (first | exact Below.refl _ _ | exact Nat.le_refl _ | refine Below.alloc ?_ ?_ _ | refine below_ext _ ?_ ?_ | refine Below.drew ?_ | refine Below.setCell ?_ ?_ _ | refine le_alloc ?_ | refine Ext.le_size _ ?_ | refine le_drew ?_ | refine le_setCell ?_)) hm.out) (hbx.out.2.mono (by with_reducible repeat' (first | exact Below.refl _ _ | exact Nat.le_refl _ | refine Below.alloc ?_ ?_ _ | refine below_ext _ ?_ ?_ | refine Below.drew ?_ | refine Below.setCell ?_ ?_ _ | refine le_alloc ?_ | refine Ext.le_size _ ?_ | refine le_drew ?_ | refine le_setCell ?_)))).go.mono ?_; rintro e w' ⟨rfl, xw, rfl⟩))
       all_goals first
         | (exfalso; omega)
         | (go_ret; exact ⟨ret_int (by unfold metE; grind), (by with_reducible repeat' (first | exact Below.refl _ _ | exact Nat.le_refl _ | refine Below.alloc ?_ ?_ _ | refine below_ext _ ?_ ?_ | refine Below.drew ?_ | refine Below.setCell ?_ ?_ _ | refine le_alloc ?_ | refine Ext.le_size _ ?_ | refine le_drew ?_ | refine le_setCell ?_))⟩))
    | (go_ret; exact ⟨ret_int (by unfold metE; grind), (by with_reducible repeat' (first | exact Below.refl _ _ | exact Nat.le_refl _ | refine Below.alloc ?_ ?_ _ | refine below_ext _ ?_ ?_ | refine Below.drew ?_ | refine Below.setCell ?_ ?_ _ | refine le_alloc ?_ | refine Ext.le_size _ ?_ | refine le_drew ?_ | refine le_setCell ?_))⟩)
set_option maxRecDepth 100000 in
set_option maxHeartbeats 4000000 in
theorem method_ftf (p : Pk) (m : Me) (k : Int) (w : World) (j : Nat) (c : Cl) (_hp : Hid (p.Ok w)) (hm : Hid (m.Ok w)) (hs : m.static = false) (ha : m.abs = true) (hj : m.cls = (j : Int)) (hcl : Hid (p.classes.xs[j]? = some c)) (hI : c.isI = false) :
    Gives Tryz.prog 105 #[p.v, .int .i64 k, m.v] w (.int .i64 (metE p m)) := by
  have hi := ins_first p m w.heap.size (w.heap.size + 1)
  have hh := hds_first m (w.heap.size + 1)
  have hle := hm.out.params.le
  have hmx := hm.out.params.max
  obtain ⟨hok, b, off, hba, hbl, hc⟩ := _hp.out.classes.at_ j c hcl.out
  have hl2 := (List.getElem?_eq_some_iff.1 hcl.out).1
  have hle2 := _hp.out.classes.le
  have hmx2 := _hp.out.classes.max
  have hj1 : (0 : Int) ≤ (j : Int) := by omega
  have hj2 : (j : Int) < (p.classes.xs.length : Int) := by omega
  have HBA := hid hba
  have h0 := hc 0 _ rfl; have h1 := hc 1 _ rfl; have h2 := hc 2 _ rfl; have h3 := hc 3 _ rfl; have h4 := hc 4 _ rfl; have h5 := hc 5 _ rfl; have h6 := hc 6 _ rfl; simp only [Nat.add_zero] at h0
  haveI : InW b w := ⟨hbl⟩
  clear hc hok
  have hcI : classI p (j : Int) = c.isI := by unfold classI; rw [Int.toNat_natCast, hcl.out]
  rw [hI] at h2 hcI
  have hbl2 : below (j : Int) (p.classes.xs.length : Int) = true := by unfold below; simp; omega
  have hbx := hid (boxPM w p m hs ha hj HBA.out 67 55)
  unfold Gives
  go_enter Tryz.func105, Tryz.ntmps105
  go_wp2_with (first | (go_at_call 111; refine (within_any _ _ _).go.mono ?_; rintro e w' ⟨rfl, xw, rfl⟩) | (go_at_call 106; refine (allUsable_za p (some ⟨b, off, none⟩) m.params _ (hm.out.params.mono (by with_reducible repeat' (first | exact Below.refl _ _ | exact Nat.le_refl _ | refine Below.alloc ?_ ?_ _ | refine below_ext _ ?_ ?_ | refine Below.drew ?_ | refine Below.setCell ?_ ?_ _ | refine le_alloc ?_ | refine Ext.le_size _ ?_ | refine le_drew ?_ | refine le_setCell ?_)))).go.mono ?_; rintro e w' ⟨rfl, xw, rfl⟩) | (go_at_call 167; refine (usable_za p (some ⟨b, off, none⟩) ⟨_, ⟨_, _⟩⟩ _).go.mono ?_; rintro e w' ⟨rfl, xw, rfl⟩) | (go_at_call 168; refine (hi.out _ (eMe.mono (by with_reducible repeat' (first | exact Below.refl _ _ | exact Nat.le_refl _ | refine Below.alloc ?_ ?_ _ | refine below_ext _ ?_ ?_ | refine Below.drew ?_ | refine Below.setCell ?_ ?_ _ | refine le_alloc ?_ | refine Ext.le_size _ ?_ | refine le_drew ?_ | refine le_setCell ?_)) hm.out) (hbx.out.1.mono (by with_reducible repeat' (first | exact Below.refl _ _ | exact Nat.le_refl _ | refine Below.alloc ?_ ?_ _ | refine below_ext _ ?_ ?_ | refine Below.drew ?_ | refine Below.setCell ?_ ?_ _ | refine le_alloc ?_ | refine Ext.le_size _ ?_ | refine le_drew ?_ | refine le_setCell ?_))) (hbx.out.2.mono (by with_reducible repeat' (first | exact Below.refl _ _ | exact Nat.le_refl _ | refine Below.alloc ?_ ?_ _ | refine below_ext _ ?_ ?_ | refine Below.drew ?_ | refine Below.setCell ?_ ?_ _ | refine le_alloc ?_ | refine Ext.le_size _ ?_ | refine le_drew ?_ | refine le_setCell ?_)))).go.mono ?_; rintro e w' ⟨rfl, xw, rfl⟩) | (go_at_call 171; refine (hh.out _ (eMe.mono (by with_reducible repeat' (first | exact Below.refl _ _ | exact Nat.le_refl _ | refine Below.alloc ?_ ?_ _ | refine below_ext _ ?_ ?_ | refine Below.drew ?_ | refine Below.setCell ?_ ?_ _ | refine le_alloc ?_ | refine Ext.le_size _ ?_ | refine le_drew ?_ | refine le_setCell ?_)) hm.out) (hbx.out.2.mono (by with_reducible repeat' (first | exact Below.refl _ _ | exact Nat.le_refl _ | refine Below.alloc ?_ ?_ _ | refine below_ext _ ?_ ?_ | refine Below.drew ?_ | refine Below.setCell ?_ ?_ _ | refine le_alloc ?_ | refine Ext.le_size _ ?_ | refine le_drew ?_ | refine le_setCell ?_)))).go.mono ?_; rintro e w' ⟨rfl, xw, rfl⟩))
  all_goals first
    | (exfalso; omega)
    | (with_reducible refine wp_region_ext (by kernel_rfl) (by kernel_rfl) ?_
       (repeat (go_big_quiet_step (fail)))
       refine wpQuiet_nil ?_
       intro xw
       go_wp2_with (first | (go_at_call 111; refine (within_any _ _ _).go.mono ?_; rintro e w' ⟨rfl, xw, rfl⟩) | (go_at_call 106; refine (allUsable_za p (some ⟨b, off, none⟩) m.params _ (hm.out.params.mono (by with_reducible repeat' (first | exact Below.refl _ _ | exact Nat.le_refl _ | refine Below.alloc ?_ ?_ _ | refine below_ext _ ?_ ?_ | refine Below.drew ?_ | refine Below.setCell ?_ ?_ _ | refine le_alloc ?_ | refine Ext.le_size _ ?_ | refine le_drew ?_ | refine le_setCell ?_)))).go.mono ?_; rintro e w' ⟨rfl, xw, rfl⟩) | (go_at_call 167; refine (usable_za p (some ⟨b, off, none⟩) ⟨_, ⟨_, _⟩⟩ _).go.mono ?_; rintro e w' ⟨rfl, xw, rfl⟩) | (go_at_call 168; refine (hi.out _ (eMe.mono (by with_reducible repeat' (first | exact Below.refl _ _ | exact Nat.le_refl _ | refine Below.alloc ?_ ?_ _ | refine below_ext _ ?_ ?_ | refine Below.drew ?_ | refine Below.setCell ?_ ?_ _ | refine le_alloc ?_ | refine Ext.le_size _ ?_ | refine le_drew ?_ | refine le_setCell ?_)) hm.out) (hbx.out.1.mono (by with_reducible repeat' (first | exact Below.refl _ _ | exact Nat.le_refl _ | refine Below.alloc ?_ ?_ _ | refine below_ext _ ?_ ?_ | refine Below.drew ?_ | refine Below.setCell ?_ ?_ _ | refine le_alloc ?_ | refine Ext.le_size _ ?_ | refine le_drew ?_ | refine le_setCell ?_))) (hbx.out.2.mono (by with_reducible repeat' (first | exact Below.refl _ _ | exact Nat.le_refl _ | refine Below.alloc ?_ ?_ _ | refine below_ext _ ?_ ?_ | refine Below.drew ?_ | refine Below.setCell ?_ ?_ _ | refine le_alloc ?_ | refine Ext.le_size _ ?_ | refine le_drew ?_ | refine le_setCell ?_)))).go.mono ?_; rintro e w' ⟨rfl, xw, rfl⟩) | (go_at_call 171; refine (hh.out _ (eMe.mono (by with_reducible repeat' (first | exact Below.refl _ _ | exact Nat.le_refl _ | refine Below.alloc ?_ ?_ _ | refine below_ext _ ?_ ?_ | refine Below.drew ?_ | refine Below.setCell ?_ ?_ _ | refine le_alloc ?_ | refine Ext.le_size _ ?_ | refine le_drew ?_ | refine le_setCell ?_)) hm.out) (hbx.out.2.mono (by with_reducible repeat' (first | exact Below.refl _ _ | exact Nat.le_refl _ | refine Below.alloc ?_ ?_ _ | refine below_ext _ ?_ ?_ | refine Below.drew ?_ | refine Below.setCell ?_ ?_ _ | refine le_alloc ?_ | refine Ext.le_size _ ?_ | refine le_drew ?_ | refine le_setCell ?_)))).go.mono ?_; rintro e w' ⟨rfl, xw, rfl⟩))
       all_goals first
         | (exfalso; omega)
         | (go_ret; exact ⟨ret_int (by unfold metE; grind), (by with_reducible repeat' (first | exact Below.refl _ _ | exact Nat.le_refl _ | refine Below.alloc ?_ ?_ _ | refine below_ext _ ?_ ?_ | refine Below.drew ?_ | refine Below.setCell ?_ ?_ _ | refine le_alloc ?_ | refine Ext.le_size _ ?_ | refine le_drew ?_ | refine le_setCell ?_))⟩))
    | (go_ret; exact ⟨ret_int (by unfold metE; grind), (by with_reducible repeat' (first | exact Below.refl _ _ | exact Nat.le_refl _ | refine Below.alloc ?_ ?_ _ | refine below_ext _ ?_ ?_ | refine Below.drew ?_ | refine Below.setCell ?_ ?_ _ | refine le_alloc ?_ | refine Ext.le_size _ ?_ | refine le_drew ?_ | refine le_setCell ?_))⟩)
set_option maxRecDepth 100000 in
set_option maxHeartbeats 4000000 in
theorem method_fft (p : Pk) (m : Me) (k : Int) (w : World) (j : Nat) (c : Cl) (_hp : Hid (p.Ok w)) (hm : Hid (m.Ok w)) (hs : m.static = false) (ha : m.abs = false) (hj : m.cls = (j : Int)) (hcl : Hid (p.classes.xs[j]? = some c)) (hI : c.isI = true) :
    Gives Tryz.prog 105 #[p.v, .int .i64 k, m.v] w (.int .i64 (metE p m)) := by
  have hi := ins_first p m w.heap.size (w.heap.size + 1)
  have hh := hds_first m (w.heap.size + 1)
  have hle := hm.out.params.le
  have hmx := hm.out.params.max
  obtain ⟨hok, b, off, hba, hbl, hc⟩ := _hp.out.classes.at_ j c hcl.out
  have hl2 := (List.getElem?_eq_some_iff.1 hcl.out).1
  have hle2 := _hp.out.classes.le
  have hmx2 := _hp.out.classes.max
  have hj1 : (0 : Int) ≤ (j : Int) := by omega
  have hj2 : (j : Int) < (p.classes.xs.length : Int) := by omega
  have HBA := hid hba
  have h0 := hc 0 _ rfl; have h1 := hc 1 _ rfl; have h2 := hc 2 _ rfl; have h3 := hc 3 _ rfl; have h4 := hc 4 _ rfl; have h5 := hc 5 _ rfl; have h6 := hc 6 _ rfl; simp only [Nat.add_zero] at h0
  haveI : InW b w := ⟨hbl⟩
  clear hc hok
  have hcI : classI p (j : Int) = c.isI := by unfold classI; rw [Int.toNat_natCast, hcl.out]
  rw [hI] at h2 hcI
  have hbl2 : below (j : Int) (p.classes.xs.length : Int) = true := by unfold below; simp; omega
  have hbx := hid (boxPM w p m hs ha hj HBA.out 67 55)
  unfold Gives
  go_enter Tryz.func105, Tryz.ntmps105
  go_wp2_with (first | (go_at_call 111; refine (within_any _ _ _).go.mono ?_; rintro e w' ⟨rfl, xw, rfl⟩) | (go_at_call 106; refine (allUsable_za p (some ⟨b, off, none⟩) m.params _ (hm.out.params.mono (by with_reducible repeat' (first | exact Below.refl _ _ | exact Nat.le_refl _ | refine Below.alloc ?_ ?_ _ | refine below_ext _ ?_ ?_ | refine Below.drew ?_ | refine Below.setCell ?_ ?_ _ | refine le_alloc ?_ | refine Ext.le_size _ ?_ | refine le_drew ?_ | refine le_setCell ?_)))).go.mono ?_; rintro e w' ⟨rfl, xw, rfl⟩) | (go_at_call 167; refine (usable_za p (some ⟨b, off, none⟩) ⟨_, ⟨_, _⟩⟩ _).go.mono ?_; rintro e w' ⟨rfl, xw, rfl⟩) | (go_at_call 168; refine (hi.out _ (eMe.mono (by with_reducible repeat' (first | exact Below.refl _ _ | exact Nat.le_refl _ | refine Below.alloc ?_ ?_ _ | refine below_ext _ ?_ ?_ | refine Below.drew ?_ | refine Below.setCell ?_ ?_ _ | refine le_alloc ?_ | refine Ext.le_size _ ?_ | refine le_drew ?_ | refine le_setCell ?_)) hm.out) (hbx.out.1.mono (by with_reducible repeat' (first | exact Below.refl _ _ | exact Nat.le_refl _ | refine Below.alloc ?_ ?_ _ | refine below_ext _ ?_ ?_ | refine Below.drew ?_ | refine Below.setCell ?_ ?_ _ | refine le_alloc ?_ | refine Ext.le_size _ ?_ | refine le_drew ?_ | refine le_setCell ?_))) (hbx.out.2.mono (by with_reducible repeat' (first | exact Below.refl _ _ | exact Nat.le_refl _ | refine Below.alloc ?_ ?_ _ | refine below_ext _ ?_ ?_ | refine Below.drew ?_ | refine Below.setCell ?_ ?_ _ | refine le_alloc ?_ | refine Ext.le_size _ ?_ | refine le_drew ?_ | refine le_setCell ?_)))).go.mono ?_; rintro e w' ⟨rfl, xw, rfl⟩) | (go_at_call 171; refine (hh.out _ (eMe.mono (by with_reducible repeat' (first | exact Below.refl _ _ | exact Nat.le_refl _ | refine Below.alloc ?_ ?_ _ | refine below_ext _ ?_ ?_ | refine Below.drew ?_ | refine Below.setCell ?_ ?_ _ | refine le_alloc ?_ | refine Ext.le_size _ ?_ | refine le_drew ?_ | refine le_setCell ?_)) hm.out) (hbx.out.2.mono (by with_reducible repeat' (first | exact Below.refl _ _ | exact Nat.le_refl _ | refine Below.alloc ?_ ?_ _ | refine below_ext _ ?_ ?_ | refine Below.drew ?_ | refine Below.setCell ?_ ?_ _ | refine le_alloc ?_ | refine Ext.le_size _ ?_ | refine le_drew ?_ | refine le_setCell ?_)))).go.mono ?_; rintro e w' ⟨rfl, xw, rfl⟩))
  all_goals first
    | (exfalso; omega)
    | (with_reducible refine wp_region_ext (by kernel_rfl) (by kernel_rfl) ?_
       (repeat (go_big_quiet_step (fail)))
       refine wpQuiet_nil ?_
       intro xw
       go_wp2_with (first | (go_at_call 111; refine (within_any _ _ _).go.mono ?_; rintro e w' ⟨rfl, xw, rfl⟩) | (go_at_call 106; refine (allUsable_za p (some ⟨b, off, none⟩) m.params _ (hm.out.params.mono (by with_reducible repeat' (first | exact Below.refl _ _ | exact Nat.le_refl _ | refine Below.alloc ?_ ?_ _ | refine below_ext _ ?_ ?_ | refine Below.drew ?_ | refine Below.setCell ?_ ?_ _ | refine le_alloc ?_ | refine Ext.le_size _ ?_ | refine le_drew ?_ | refine le_setCell ?_)))).go.mono ?_; rintro e w' ⟨rfl, xw, rfl⟩) | (go_at_call 167; refine (usable_za p (some ⟨b, off, none⟩) ⟨_, ⟨_, _⟩⟩ _).go.mono ?_; rintro e w' ⟨rfl, xw, rfl⟩) | (go_at_call 168; refine (hi.out _ (eMe.mono (by with_reducible repeat' (first | exact Below.refl _ _ | exact Nat.le_refl _ | refine Below.alloc ?_ ?_ _ | refine below_ext _ ?_ ?_ | refine Below.drew ?_ | refine Below.setCell ?_ ?_ _ | refine le_alloc ?_ | refine Ext.le_size _ ?_ | refine le_drew ?_ | refine le_setCell ?_)) hm.out) (hbx.out.1.mono (by with_reducible repeat' (first | exact Below.refl _ _ | exact Nat.le_refl _ | refine Below.alloc ?_ ?_ _ | refine below_ext _ ?_ ?_ | refine Below.drew ?_ | refine Below.setCell ?_ ?_ _ | refine le_alloc ?_ | refine Ext.le_size _ ?_ | refine le_drew ?_ | refine le_setCell ?_))) (hbx.out.2.mono (by with_reducible repeat' (first | exact Below.refl _ _ | exact Nat.le_refl _ | refine Below.alloc ?_ ?_ _ | refine below_ext _ ?_ ?_ | refine Below.drew ?_ | refine Below.setCell ?_ ?_ _ | refine le_alloc ?_ | refine Ext.le_size _ ?_ | refine le_drew ?_ | refine le_setCell ?_)))).go.mono ?_; rintro e w' ⟨rfl, xw, rfl⟩) | (go_at_call 171; refine (hh.out _ (eMe.mono (by with_reducible repeat' (first | exact Below.refl _ _ | exact Nat.le_refl _ | refine Below.alloc ?_ ?_ _ | refine below_ext _ ?_ ?_ | refine Below.drew ?_ | refine Below.setCell ?_ ?_ _ | refine le_alloc ?_ | refine Ext.le_size _ ?_ | refine le_drew ?_ | refine le_setCell ?_)) hm.out) (hbx.out.2.mono (by with_reducible repeat' (first | exact Below.refl _ _ | exact Nat.le_refl _ | refine Below.alloc ?_ ?_ _ | refine below_ext _ ?_ ?_ | refine Below.drew ?_ | refine Below.setCell ?_ ?_ _ | refine le_alloc ?_ | refine Ext.le_size _ ?_ | refine le_drew ?_ | refine le_setCell ?_)))).go.mono ?_; rintro e w' ⟨rfl, xw, rfl⟩))
       all_goals first
         | (exfalso; omega)
         | (go_ret; exact ⟨ret_int (by unfold metE; grind), (by with_reducible repeat' (first | exact Below.refl _ _ | exact Nat.le_refl _ | refine Below.alloc ?_ ?_ _ | refine below_ext _ ?_ ?_ | refine Below.drew ?_ | refine Below.setCell ?_ ?_ _ | refine le_alloc ?_ | refine Ext.le_size _ ?_ | refine le_drew ?_ | refine le_setCell ?_))⟩))
    | (go_ret; exact ⟨ret_int (by unfold metE; grind), (by with_reducible repeat' (first | exact Below.refl _ _ | exact Nat.le_refl _ | refine Below.alloc ?_ ?_ _ | refine below_ext _ ?_ ?_ | refine Below.drew ?_ | refine Below.setCell ?_ ?_ _ | refine le_alloc ?_ | refine Ext.le_size _ ?_ | refine le_drew ?_ | refine le_setCell ?_))⟩)
end Go.Proofs.YthagkijplklemaaGreatDoor
end

section
namespace Go.Proofs.YthagkijplklemaaGreatDoor
open Go.ChangeShapes Go.WideShapes Go.ChangeAt Go.RowKit Go.Sc
theorem wrap_small (n : Nat) : (n : Int) ≤ 6 → wrap64 ((n : Int) + 1) = (n : Int) + 1 := by
  intro h
  unfold wrap64
  omega
set_option maxRecDepth 100000 in
set_option maxHeartbeats 4000000 in
theorem method_fff (p : Pk) (m : Me) (k : Int) (w : World) (j : Nat) (c : Cl) (_hp : Hid (p.Ok w)) (hm : Hid (m.Ok w)) (hs : m.static = false) (ha : m.abs = false) (hj : m.cls = (j : Int)) (hcl : Hid (p.classes.xs[j]? = some c)) (hI : c.isI = false) :
    Gives Tryz.prog 105 #[p.v, .int .i64 k, m.v] w (.int .i64 (metE p m)) := by
  have hi := ins_first p m w.heap.size (w.heap.size + 1)
  have hh := hds_first m (w.heap.size + 1)
  have hle := hm.out.params.le
  have hmx := hm.out.params.max
  obtain ⟨hok, b, off, hba, hbl, hc⟩ := _hp.out.classes.at_ j c hcl.out
  have hl2 := (List.getElem?_eq_some_iff.1 hcl.out).1
  have hle2 := _hp.out.classes.le
  have hmx2 := _hp.out.classes.max
  have hj1 : (0 : Int) ≤ (j : Int) := by omega
  have hj2 : (j : Int) < (p.classes.xs.length : Int) := by omega
  have HBA := hid hba
  have h0 := hc 0 _ rfl; have h1 := hc 1 _ rfl; have h2 := hc 2 _ rfl; have h3 := hc 3 _ rfl; have h4 := hc 4 _ rfl; have h5 := hc 5 _ rfl; have h6 := hc 6 _ rfl; simp only [Nat.add_zero] at h0
  haveI : InW b w := ⟨hbl⟩
  clear hc hok
  have hcI : classI p (j : Int) = c.isI := by unfold classI; rw [Int.toNat_natCast, hcl.out]
  rw [hI] at h2 hcI
  have hbl2 : below (j : Int) (p.classes.xs.length : Int) = true := by unfold below; simp; omega
  have hbx := hid (boxPM w p m hs ha hj HBA.out 67 55)
  unfold Gives
  go_enter Tryz.func105, Tryz.ntmps105
  go_wp2_with (first | (go_at_call 111; refine (within_any _ _ _).go.mono ?_; rintro e w' ⟨rfl, xw, rfl⟩) | (go_at_call 106; refine (allUsable_za p (some ⟨b, off, none⟩) m.params _ (hm.out.params.mono (by with_reducible repeat' (first | exact Below.refl _ _ | exact Nat.le_refl _ | refine Below.alloc ?_ ?_ _ | refine below_ext _ ?_ ?_ | refine Below.drew ?_ | refine Below.setCell ?_ ?_ _ | refine le_alloc ?_ | refine Ext.le_size _ ?_ | refine le_drew ?_ | refine le_setCell ?_)))).go.mono ?_; rintro e w' ⟨rfl, xw, rfl⟩) | (go_at_call 167; refine (usable_za p (some ⟨b, off, none⟩) ⟨_, ⟨_, _⟩⟩ _).go.mono ?_; rintro e w' ⟨rfl, xw, rfl⟩) | (go_at_call 168; refine (hi.out _ (eMe.mono (by with_reducible repeat' (first | exact Below.refl _ _ | exact Nat.le_refl _ | refine Below.alloc ?_ ?_ _ | refine below_ext _ ?_ ?_ | refine Below.drew ?_ | refine Below.setCell ?_ ?_ _ | refine le_alloc ?_ | refine Ext.le_size _ ?_ | refine le_drew ?_ | refine le_setCell ?_)) hm.out) (hbx.out.1.mono (by with_reducible repeat' (first | exact Below.refl _ _ | exact Nat.le_refl _ | refine Below.alloc ?_ ?_ _ | refine below_ext _ ?_ ?_ | refine Below.drew ?_ | refine Below.setCell ?_ ?_ _ | refine le_alloc ?_ | refine Ext.le_size _ ?_ | refine le_drew ?_ | refine le_setCell ?_))) (hbx.out.2.mono (by with_reducible repeat' (first | exact Below.refl _ _ | exact Nat.le_refl _ | refine Below.alloc ?_ ?_ _ | refine below_ext _ ?_ ?_ | refine Below.drew ?_ | refine Below.setCell ?_ ?_ _ | refine le_alloc ?_ | refine Ext.le_size _ ?_ | refine le_drew ?_ | refine le_setCell ?_)))).go.mono ?_; rintro e w' ⟨rfl, xw, rfl⟩) | (go_at_call 171; refine (hh.out _ (eMe.mono (by with_reducible repeat' (first | exact Below.refl _ _ | exact Nat.le_refl _ | refine Below.alloc ?_ ?_ _ | refine below_ext _ ?_ ?_ | refine Below.drew ?_ | refine Below.setCell ?_ ?_ _ | refine le_alloc ?_ | refine Ext.le_size _ ?_ | refine le_drew ?_ | refine le_setCell ?_)) hm.out) (hbx.out.2.mono (by with_reducible repeat' (first | exact Below.refl _ _ | exact Nat.le_refl _ | refine Below.alloc ?_ ?_ _ | refine below_ext _ ?_ ?_ | refine Below.drew ?_ | refine Below.setCell ?_ ?_ _ | refine le_alloc ?_ | refine Ext.le_size _ ?_ | refine le_drew ?_ | refine le_setCell ?_)))).go.mono ?_; rintro e w' ⟨rfl, xw, rfl⟩))
  all_goals first
    | (exfalso; omega)
    | (with_reducible refine wp_region_ext (by kernel_rfl) (by kernel_rfl) ?_
       (repeat (go_big_quiet_step (fail)))
       refine wpQuiet_nil ?_
       intro xw
       go_wp2_with (first | (go_at_call 111; refine (within_any _ _ _).go.mono ?_; rintro e w' ⟨rfl, xw, rfl⟩) | (go_at_call 106; refine (allUsable_za p (some ⟨b, off, none⟩) m.params _ (hm.out.params.mono (by with_reducible repeat' (first | exact Below.refl _ _ | exact Nat.le_refl _ | refine Below.alloc ?_ ?_ _ | refine below_ext _ ?_ ?_ | refine Below.drew ?_ | refine Below.setCell ?_ ?_ _ | refine le_alloc ?_ | refine Ext.le_size _ ?_ | refine le_drew ?_ | refine le_setCell ?_)))).go.mono ?_; rintro e w' ⟨rfl, xw, rfl⟩) | (go_at_call 167; refine (usable_za p (some ⟨b, off, none⟩) ⟨_, ⟨_, _⟩⟩ _).go.mono ?_; rintro e w' ⟨rfl, xw, rfl⟩) | (go_at_call 168; refine (hi.out _ (eMe.mono (by with_reducible repeat' (first | exact Below.refl _ _ | exact Nat.le_refl _ | refine Below.alloc ?_ ?_ _ | refine below_ext _ ?_ ?_ | refine Below.drew ?_ | refine Below.setCell ?_ ?_ _ | refine le_alloc ?_ | refine Ext.le_size _ ?_ | refine le_drew ?_ | refine le_setCell ?_)) hm.out) (hbx.out.1.mono (by with_reducible repeat' (first | exact Below.refl _ _ | exact Nat.le_refl _ | refine Below.alloc ?_ ?_ _ | refine below_ext _ ?_ ?_ | refine Below.drew ?_ | refine Below.setCell ?_ ?_ _ | refine le_alloc ?_ | refine Ext.le_size _ ?_ | refine le_drew ?_ | refine le_setCell ?_))) (hbx.out.2.mono (by with_reducible repeat' (first | exact Below.refl _ _ | exact Nat.le_refl _ | refine Below.alloc ?_ ?_ _ | refine below_ext _ ?_ ?_ | refine Below.drew ?_ | refine Below.setCell ?_ ?_ _ | refine le_alloc ?_ | refine Ext.le_size _ ?_ | refine le_drew ?_ | refine le_setCell ?_)))).go.mono ?_; rintro e w' ⟨rfl, xw, rfl⟩) | (go_at_call 171; refine (hh.out _ (eMe.mono (by with_reducible repeat' (first | exact Below.refl _ _ | exact Nat.le_refl _ | refine Below.alloc ?_ ?_ _ | refine below_ext _ ?_ ?_ | refine Below.drew ?_ | refine Below.setCell ?_ ?_ _ | refine le_alloc ?_ | refine Ext.le_size _ ?_ | refine le_drew ?_ | refine le_setCell ?_)) hm.out) (hbx.out.2.mono (by with_reducible repeat' (first | exact Below.refl _ _ | exact Nat.le_refl _ | refine Below.alloc ?_ ?_ _ | refine below_ext _ ?_ ?_ | refine Below.drew ?_ | refine Below.setCell ?_ ?_ _ | refine le_alloc ?_ | refine Ext.le_size _ ?_ | refine le_drew ?_ | refine le_setCell ?_)))).go.mono ?_; rintro e w' ⟨rfl, xw, rfl⟩))
       all_goals first
         | (exfalso; omega)
         | (go_ret; exact ⟨ret_int (by have hwr := wrap_small m.params.xs.length; unfold metE; grind), (by with_reducible repeat' (first | exact Below.refl _ _ | exact Nat.le_refl _ | refine Below.alloc ?_ ?_ _ | refine below_ext _ ?_ ?_ | refine Below.drew ?_ | refine Below.setCell ?_ ?_ _ | refine le_alloc ?_ | refine Ext.le_size _ ?_ | refine le_drew ?_ | refine le_setCell ?_))⟩))
    | (go_ret; exact ⟨ret_int (by have hwr := wrap_small m.params.xs.length; unfold metE; grind), (by with_reducible repeat' (first | exact Below.refl _ _ | exact Nat.le_refl _ | refine Below.alloc ?_ ?_ _ | refine below_ext _ ?_ ?_ | refine Below.drew ?_ | refine Below.setCell ?_ ?_ _ | refine le_alloc ?_ | refine Ext.le_size _ ?_ | refine le_drew ?_ | refine le_setCell ?_))⟩)
end Go.Proofs.YthagkijplklemaaGreatDoor
end

section
namespace Go.Proofs.YthagkijplklemaaGreatDoor
open Go.ChangeShapes Go.WideShapes Go.ChangeAt Go.RowKit Go.Sc
theorem contApp_take (p : Pk) (k : Nat) (x : Ap) (cb : Nat) (hk : k ≤ p.applets.xs.length) : Hid (∀ W : World, Pk.Ok W p → Ap.Ok W x → CellAt W cb 0 (.slice x.aid.a x.aid.xs.length x.aid.c) →
    Gives Tryz.prog 109 #[.slice p.applets.a k p.applets.c, .func (.func 110) #[] #[.pointer (some ⟨cb, 0, none⟩)]] W (.bool ((p.applets.xs.take k).any (fun y => bEq x.aid.xs y.aid.xs)))) := fun W hp hx hc => by
  have h := cont_app (p.applets.take k) (fun y => bEq x.aid.xs y.aid.xs) (c0 := .pointer (some ⟨cb, 0, none⟩)) W (hp.applets.take k)
    (fun j y W' hb hy => applets11_any y cb x.aid W' (((hp.applets.take k).mono hb).at_ j y hy).1.1 (hx.1.mono hb) (hc.mono hb))
  rwa [Sl.v, Sl.take_len hk] at h
/-- How many virtual methods class number n has. -/
def classV (p : Pk) (n : Int) : Nat := match p.classes.xs[n.toNat]? with | some c => c.virt.xs.length | none => 0
/-- Whether a method is one that installs. -/
def instB (m : Me) : Bool := m.static && (eqF (fun x y => decide (x = y)) m.params.xs [(⟨2, ⟨0, 0⟩⟩ : Ty)] && (decide (m.result.k = 5) && (decide (m.result.c.p = 255) && decide (m.result.c.c = 0))))
def methI (p : Pk) (n : Int) : Bool := match p.methods.xs[n.toNat]? with | some m => instB m | none => false
def appE (p : Pk) (k : Nat) (x : Ap) : Int :=
  if isName x.aid.xs.length = false then 1
  else if (p.applets.xs.take k).any (fun y => bEq x.aid.xs y.aid.xs) = true then 13
  else if below x.cls p.classes.xs.length = false ∨ below x.inst p.methods.xs.length = false then 2
  else if classI p x.cls = true ∨ classV p x.cls < 4 then 4
  else if methI p x.inst = true then 0 else 22
theorem okTy1 (W : World) (t : TypeId) (b : Nat) (hb : b = W.heap.size) (k : Int) (hk : i64ok k) : (⟨some ⟨b, 0, none⟩, 1, [⟨k, ⟨0, 0⟩⟩]⟩ : Sl Ty).Ok eTy 3 (W.alloc (.cells #[.int .i64 k, .int .i64 0, .int .i64 0] t)) := by
  subst hb
  refine ⟨by simp, by simp, by simp, fun j x hx => ?_⟩
  match j, hx with
  | 0, hx =>
    simp at hx; subst hx
    refine ⟨⟨hk, by simp [i64ok], by simp [i64ok]⟩, _, _, rfl, by simp, fun j v hv => ?_⟩
    rw [World.cell?_alloc_new]
    match j, hv with
    | 0, hv => simpa [eTy] using hv
    | 1, hv => simpa [eTy] using hv
    | 2, hv => simpa [eTy] using hv
theorem applets1_bad (p : Pk) (k : Nat) (x : Ap) (cb : Nat) (w : World) (hp : Hid (p.Ok w)) (hx : Hid (x.Ok w)) (hc : Hid (PkAt w cb p)) (hk : k < p.applets.xs.length)
    (hb : below x.cls p.classes.xs.length = false ∨ below x.inst p.methods.xs.length = false) :
    Gives Tryz.prog 108 #[.int .i64 k, x.v, .pointer (some ⟨cb, 0, none⟩)] w (.int .i64 (appE p k x)) := by
  obtain ⟨hlt, c0, c1, c2, c3, c4, c5, c6, c7⟩ := hc.out
  haveI : InW cb w := ⟨hlt⟩
  clear c0 c1 c2 c3 c6 hlt
  have hle := hp.out.applets.le
  have hmx := hp.out.applets.max
  have ht := contApp_take p k x w.heap.size (by omega)
  have hk1 : (0 : Int) ≤ (k : Int) := by omega
  have hk2 : (k : Int) ≤ (p.applets.c : Int) := by omega
  unfold Gives
  rcases hb with hb | hb
  · go_enter Tryz.func108, Tryz.ntmps108
    go_wp2_with (first | (go_at_call 25; refine (identifier_any _ _ _ _).go.mono ?_; rintro e w' ⟨rfl, xw, rfl⟩) | (go_at_call 109; refine (ht.out _ (hp.out.mono (by with_reducible repeat' (first | exact Below.refl _ _ | exact Nat.le_refl _ | refine Below.alloc ?_ ?_ _ | refine below_ext _ ?_ ?_ | refine Below.drew ?_ | refine Below.setCell ?_ ?_ _ | refine le_alloc ?_ | refine Ext.le_size _ ?_ | refine le_drew ?_ | refine le_setCell ?_))) (eAp.mono (by with_reducible repeat' (first | exact Below.refl _ _ | exact Nat.le_refl _ | refine Below.alloc ?_ ?_ _ | refine below_ext _ ?_ ?_ | refine Below.drew ?_ | refine Below.setCell ?_ ?_ _ | refine le_alloc ?_ | refine Ext.le_size _ ?_ | refine le_drew ?_ | refine le_setCell ?_)) hx.out) (CellAt.mono (CellAt.new w _ _ 0 _ rfl) (by with_reducible repeat' (first | exact Below.refl _ _ | exact Nat.le_refl _ | refine Below.alloc ?_ ?_ _ | refine below_ext _ ?_ ?_ | refine Below.drew ?_ | refine Below.setCell ?_ ?_ _ | refine le_alloc ?_ | refine Ext.le_size _ ?_ | refine le_drew ?_ | refine le_setCell ?_)))).go.mono ?_; rintro e w' ⟨rfl, xw, rfl⟩) | (go_at_call 111; refine (within_any _ _ _).go.mono ?_; rintro e w' ⟨rfl, xw, rfl⟩))
    all_goals
      go_ret
      exact ⟨ret_int (by unfold appE; grind), (by with_reducible repeat' (first | exact Below.refl _ _ | exact Nat.le_refl _ | refine Below.alloc ?_ ?_ _ | refine below_ext _ ?_ ?_ | refine Below.drew ?_ | refine Below.setCell ?_ ?_ _ | refine le_alloc ?_ | refine Ext.le_size _ ?_ | refine le_drew ?_ | refine le_setCell ?_))⟩
  · cases hb1 : below x.cls p.classes.xs.length
    all_goals
      go_enter Tryz.func108, Tryz.ntmps108
      go_wp2_with (first | (go_at_call 25; refine (identifier_any _ _ _ _).go.mono ?_; rintro e w' ⟨rfl, xw, rfl⟩) | (go_at_call 109; refine (ht.out _ (hp.out.mono (by with_reducible repeat' (first | exact Below.refl _ _ | exact Nat.le_refl _ | refine Below.alloc ?_ ?_ _ | refine below_ext _ ?_ ?_ | refine Below.drew ?_ | refine Below.setCell ?_ ?_ _ | refine le_alloc ?_ | refine Ext.le_size _ ?_ | refine le_drew ?_ | refine le_setCell ?_))) (eAp.mono (by with_reducible repeat' (first | exact Below.refl _ _ | exact Nat.le_refl _ | refine Below.alloc ?_ ?_ _ | refine below_ext _ ?_ ?_ | refine Below.drew ?_ | refine Below.setCell ?_ ?_ _ | refine le_alloc ?_ | refine Ext.le_size _ ?_ | refine le_drew ?_ | refine le_setCell ?_)) hx.out) (CellAt.mono (CellAt.new w _ _ 0 _ rfl) (by with_reducible repeat' (first | exact Below.refl _ _ | exact Nat.le_refl _ | refine Below.alloc ?_ ?_ _ | refine below_ext _ ?_ ?_ | refine Below.drew ?_ | refine Below.setCell ?_ ?_ _ | refine le_alloc ?_ | refine Ext.le_size _ ?_ | refine le_drew ?_ | refine le_setCell ?_)))).go.mono ?_; rintro e w' ⟨rfl, xw, rfl⟩) | (go_at_call 111; refine (within_any _ _ _).go.mono ?_; rintro e w' ⟨rfl, xw, rfl⟩))
      all_goals
        go_ret
        exact ⟨ret_int (by unfold appE; grind), (by with_reducible repeat' (first | exact Below.refl _ _ | exact Nat.le_refl _ | refine Below.alloc ?_ ?_ _ | refine below_ext _ ?_ ?_ | refine Below.drew ?_ | refine Below.setCell ?_ ?_ _ | refine le_alloc ?_ | refine Ext.le_size _ ?_ | refine le_drew ?_ | refine le_setCell ?_))⟩
set_option maxRecDepth 20000 in
set_option maxHeartbeats 1000000 in
theorem applets1_good (p : Pk) (k : Nat) (x : Ap) (cb : Nat) (w : World) (hp : Hid (p.Ok w)) (hx : Hid (x.Ok w)) (hc : Hid (PkAt w cb p)) (hg : Hid (ObjAt w 0)) (hk : k < p.applets.xs.length)
    (j l : Nat) (c : Cl) (m : Me) (hj : x.cls = (j : Int)) (hl : x.inst = (l : Int)) (hcl : Hid (p.classes.xs[j]? = some c)) (hme : Hid (p.methods.xs[l]? = some m)) {bI bS : Bool} (hI : c.isI = bI) (hS : m.static = bS) :
    Gives Tryz.prog 108 #[.int .i64 k, x.v, .pointer (some ⟨cb, 0, none⟩)] w (.int .i64 (appE p k x)) := by
  obtain ⟨hlt, c0, c1, c2, c3, c4, c5, c6, c7⟩ := hc.out
  haveI : InW cb w := ⟨hlt⟩
  clear c0 c1 c2 c3 c6 hlt
  have hle := hp.out.applets.le
  have hmx := hp.out.applets.max
  have ht := contApp_take p k x w.heap.size (by omega)
  have hk1 : (0 : Int) ≤ (k : Int) := by omega
  have hk2 : (k : Int) ≤ (p.applets.c : Int) := by omega
  obtain ⟨hglt, g0, g1⟩ := hg.out
  haveI : InW 0 w := ⟨hglt⟩
  obtain ⟨hok, b, off, hba, hbl, hcc⟩ := hp.out.classes.at_ j c hcl.out
  obtain ⟨hok', b', off', hba', hbl', hcc'⟩ := hp.out.methods.at_ l m hme.out
  have hl1 := (List.getElem?_eq_some_iff.1 hcl.out).1
  have hl2 := (List.getElem?_eq_some_iff.1 hme.out).1
  have hle2 := hp.out.classes.le
  have hmx2 := hp.out.classes.max
  have hle3 := hp.out.methods.le
  have hmx3 := hp.out.methods.max
  have hj1 : (0 : Int) ≤ (j : Int) := by omega
  have hj2 : (j : Int) < (p.classes.xs.length : Int) := by omega
  have hj3 : (0 : Int) ≤ (l : Int) := by omega
  have hj4 : (l : Int) < (p.methods.xs.length : Int) := by omega
  have h0 := hcc 0 _ rfl; have h1 := hcc 1 _ rfl; have h2 := hcc 2 _ rfl; have h3 := hcc 3 _ rfl; have h4 := hcc 4 _ rfl; have h5 := hcc 5 _ rfl; have h6 := hcc 6 _ rfl; simp only [Nat.add_zero] at h0
  have d0 := hcc' 0 _ rfl; have d1 := hcc' 1 _ rfl; have d2 := hcc' 2 _ rfl; have d3 := hcc' 3 _ rfl; have d4 := hcc' 4 _ rfl; have d5 := hcc' 5 _ rfl; have d6 := hcc' 6 _ rfl; have d7 := hcc' 7 _ rfl; have d8 := hcc' 8 _ rfl; have d9 := hcc' 9 _ rfl; have d10 := hcc' 10 _ rfl; simp only [Nat.add_zero] at d0
  haveI : InW b w := ⟨hbl⟩
  haveI : InW b' w := ⟨hbl'⟩
  have hcI : classI p (j : Int) = c.isI := by unfold classI; rw [Int.toNat_natCast, hcl.out]
  have hcV : classV p (j : Int) = c.virt.xs.length := by unfold classV; rw [Int.toNat_natCast, hcl.out]
  have hmI : methI p (l : Int) = instB m := by unfold methI; rw [Int.toNat_natCast, hme.out]
  have hb1 : below (j : Int) (p.classes.xs.length : Int) = true := by unfold below; simp; omega
  have hb2 : below (l : Int) (p.methods.xs.length : Int) = true := by unfold below; simp; omega
  have HI := hid hcI
  have HV := hid hcV
  have HM := hid hmI
  have hm : Hid (m.Ok w) := hok'
  rw [hI] at h2
  rw [hS] at d0
  have HS := hid hS
  have HJ := hid hI
  clear hcc hcc' hok hok' hcI hcV hmI hI hS
  cases bI <;> cases bS
  all_goals
    unfold Gives
    go_enter Tryz.func108, Tryz.ntmps108
    go_wp2_with (first | (go_at_call 53; refine (eq_tys m.params ⟨some ⟨_, 0, none⟩, _, [⟨2, ⟨0, 0⟩⟩]⟩ _ (hm.out.params.mono (by with_reducible repeat' (first | exact Below.refl _ _ | exact Nat.le_refl _ | refine Below.alloc ?_ ?_ _ | refine below_ext _ ?_ ?_ | refine Below.drew ?_ | refine Below.setCell ?_ ?_ _ | refine le_alloc ?_ | refine Ext.le_size _ ?_ | refine le_drew ?_ | refine le_setCell ?_))) (okTy1 _ _ _ (by simp) 2 (by simp [i64ok]))).go.mono ?_; rintro e w' ⟨rfl, xw, rfl⟩) | first | (go_at_call 25; refine (identifier_any _ _ _ _).go.mono ?_; rintro e w' ⟨rfl, xw, rfl⟩) | (go_at_call 109; refine (ht.out _ (hp.out.mono (by with_reducible repeat' (first | exact Below.refl _ _ | exact Nat.le_refl _ | refine Below.alloc ?_ ?_ _ | refine below_ext _ ?_ ?_ | refine Below.drew ?_ | refine Below.setCell ?_ ?_ _ | refine le_alloc ?_ | refine Ext.le_size _ ?_ | refine le_drew ?_ | refine le_setCell ?_))) (eAp.mono (by with_reducible repeat' (first | exact Below.refl _ _ | exact Nat.le_refl _ | refine Below.alloc ?_ ?_ _ | refine below_ext _ ?_ ?_ | refine Below.drew ?_ | refine Below.setCell ?_ ?_ _ | refine le_alloc ?_ | refine Ext.le_size _ ?_ | refine le_drew ?_ | refine le_setCell ?_)) hx.out) (CellAt.mono (CellAt.new w _ _ 0 _ rfl) (by with_reducible repeat' (first | exact Below.refl _ _ | exact Nat.le_refl _ | refine Below.alloc ?_ ?_ _ | refine below_ext _ ?_ ?_ | refine Below.drew ?_ | refine Below.setCell ?_ ?_ _ | refine le_alloc ?_ | refine Ext.le_size _ ?_ | refine le_drew ?_ | refine le_setCell ?_)))).go.mono ?_; rintro e w' ⟨rfl, xw, rfl⟩) | (go_at_call 111; refine (within_any _ _ _).go.mono ?_; rintro e w' ⟨rfl, xw, rfl⟩))
    all_goals first
      | (exfalso; omega)
      | (go_ret; exact ⟨ret_int (by have h1 := HI.out; have h2 := HV.out; have h3 := HM.out; have h4 := HS.out; have h5 := HJ.out; unfold instB at h3; unfold appE; grind), (by with_reducible repeat' (first | exact Below.refl _ _ | exact Nat.le_refl _ | refine Below.alloc ?_ ?_ _ | refine below_ext _ ?_ ?_ | refine Below.drew ?_ | refine Below.setCell ?_ ?_ _ | refine le_alloc ?_ | refine Ext.le_size _ ?_ | refine le_drew ?_ | refine le_setCell ?_))⟩)
end Go.Proofs.YthagkijplklemaaGreatDoor
end
