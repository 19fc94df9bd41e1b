/- Check of the program: a method, its ways. Check of the program: a method, its ways. Check of the program: a method, its ways. Check of the program: applets. Check of the program: classes. -/
import Derived.Test.YthagkijplklemaaGreatDoorS07
section
namespace Go.Proofs.YthagkijplklemaaGreatDoor
open Go.ChangeShapes Go.WideShapes Go.ChangeAt Go.RowKit Go.Sc
set_option maxRecDepth 100000 in
set_option maxHeartbeats 4000000 in
theorem method_tt (p : Pk) (m : Me) (k : Int) (w : World)  (_hp : Hid (p.Ok w)) (hm : Hid (m.Ok w)) (hs : m.static = true) (ha : m.abs = true)  :
    Gives Tryz.prog 105 #[p.v, .int .i64 k, m.v] w (.int .i64 (metE p m)) := by
  have hi := ins_first p m w.heap.size (w.heap.size + 1)
  have hh := hds_first m (w.heap.size + 1)
  have hle := hm.out.params.le
  have hmx := hm.out.params.max
  skip
  have hbx := hid (boxPM w p m hs ha rfl rfl 67 55)
  unfold Gives
  go_enter Tryz.func105, Tryz.ntmps105
  go_wp2_with (first | (go_at_call 111; refine (within_any _ _ _).go.mono ?_; rintro e w' ⟨rfl, xw, rfl⟩) | (go_at_call 106; refine (allUsable_za p (p.classes.a) m.params _ (hm.out.params.mono END)).go.mono ?_; rintro e w' ⟨rfl, xw, rfl⟩) | (go_at_call 167; refine (usable_za p (p.classes.a) ⟨_, ⟨_, _⟩⟩ _).go.mono ?_; rintro e w' ⟨rfl, xw, rfl⟩) | (go_at_call 168; refine (hi.out _ (eMe.mono END hm.out) (hbx.out.1.mono END) (hbx.out.2.mono END)).go.mono ?_; rintro e w' ⟨rfl, xw, rfl⟩) | (go_at_call 171; refine (hh.out _ (eMe.mono END hm.out) (hbx.out.2.mono END)).go.mono ?_; rintro e w' ⟨rfl, xw, rfl⟩))
  all_goals first
    | (exfalso; omega)
    | (with_reducible refine wp_region_ext (by kernel_rfl) (by kernel_rfl) ?_
       (repeat (go_big_quiet_step (fail)))
       refine wpQuiet_nil ?_
       intro xw
       go_wp2_with (first | (go_at_call 111; refine (within_any _ _ _).go.mono ?_; rintro e w' ⟨rfl, xw, rfl⟩) | (go_at_call 106; refine (allUsable_za p (p.classes.a) m.params _ (hm.out.params.mono END)).go.mono ?_; rintro e w' ⟨rfl, xw, rfl⟩) | (go_at_call 167; refine (usable_za p (p.classes.a) ⟨_, ⟨_, _⟩⟩ _).go.mono ?_; rintro e w' ⟨rfl, xw, rfl⟩) | (go_at_call 168; refine (hi.out _ (eMe.mono END hm.out) (hbx.out.1.mono END) (hbx.out.2.mono END)).go.mono ?_; rintro e w' ⟨rfl, xw, rfl⟩) | (go_at_call 171; refine (hh.out _ (eMe.mono END hm.out) (hbx.out.2.mono END)).go.mono ?_; rintro e w' ⟨rfl, xw, rfl⟩))
       all_goals first
         | (exfalso; omega)
         | (go_ret; exact ⟨ret_int (by unfold metE; grind), END⟩))
    | (go_ret; exact ⟨ret_int (by unfold metE; grind), END⟩)
set_option maxRecDepth 100000 in
set_option maxHeartbeats 4000000 in
theorem method_tf (p : Pk) (m : Me) (k : Int) (w : World)  (_hp : Hid (p.Ok w)) (hm : Hid (m.Ok w)) (hs : m.static = true) (ha : m.abs = false)  :
    Gives Tryz.prog 105 #[p.v, .int .i64 k, m.v] w (.int .i64 (metE p m)) := by
  have hi := ins_first p m w.heap.size (w.heap.size + 1)
  have hh := hds_first m (w.heap.size + 1)
  have hle := hm.out.params.le
  have hmx := hm.out.params.max
  skip
  have hbx := hid (boxPM w p m hs ha rfl rfl 67 55)
  unfold Gives
  go_enter Tryz.func105, Tryz.ntmps105
  go_wp2_with (first | (go_at_call 111; refine (within_any _ _ _).go.mono ?_; rintro e w' ⟨rfl, xw, rfl⟩) | (go_at_call 106; refine (allUsable_za p (p.classes.a) m.params _ (hm.out.params.mono END)).go.mono ?_; rintro e w' ⟨rfl, xw, rfl⟩) | (go_at_call 167; refine (usable_za p (p.classes.a) ⟨_, ⟨_, _⟩⟩ _).go.mono ?_; rintro e w' ⟨rfl, xw, rfl⟩) | (go_at_call 168; refine (hi.out _ (eMe.mono END hm.out) (hbx.out.1.mono END) (hbx.out.2.mono END)).go.mono ?_; rintro e w' ⟨rfl, xw, rfl⟩) | (go_at_call 171; refine (hh.out _ (eMe.mono END hm.out) (hbx.out.2.mono END)).go.mono ?_; rintro e w' ⟨rfl, xw, rfl⟩))
  all_goals first
    | (exfalso; omega)
    | (with_reducible refine wp_region_ext (by kernel_rfl) (by kernel_rfl) ?_
       (repeat (go_big_quiet_step (fail)))
       refine wpQuiet_nil ?_
       intro xw
       go_wp2_with (first | (go_at_call 111; refine (within_any _ _ _).go.mono ?_; rintro e w' ⟨rfl, xw, rfl⟩) | (go_at_call 106; refine (allUsable_za p (p.classes.a) m.params _ (hm.out.params.mono END)).go.mono ?_; rintro e w' ⟨rfl, xw, rfl⟩) | (go_at_call 167; refine (usable_za p (p.classes.a) ⟨_, ⟨_, _⟩⟩ _).go.mono ?_; rintro e w' ⟨rfl, xw, rfl⟩) | (go_at_call 168; refine (hi.out _ (eMe.mono END hm.out) (hbx.out.1.mono END) (hbx.out.2.mono END)).go.mono ?_; rintro e w' ⟨rfl, xw, rfl⟩) | (go_at_call 171; refine (hh.out _ (eMe.mono END hm.out) (hbx.out.2.mono END)).go.mono ?_; rintro e w' ⟨rfl, xw, rfl⟩))
       all_goals first
         | (exfalso; omega)
         | (go_ret; exact ⟨ret_int (by unfold metE; grind), END⟩))
    | (go_ret; exact ⟨ret_int (by unfold metE; grind), END⟩)
set_option maxRecDepth 100000 in
set_option maxHeartbeats 4000000 in
theorem method_fbt (p : Pk) (m : Me) (k : Int) (w : World)  (_hp : Hid (p.Ok w)) (hm : Hid (m.Ok w)) (hs : m.static = false) (ha : m.abs = true) (hb : below m.cls p.classes.xs.length = false) :
    Gives Tryz.prog 105 #[p.v, .int .i64 k, m.v] w (.int .i64 (metE p m)) := by
  have hi := ins_first p m w.heap.size (w.heap.size + 1)
  have hh := hds_first m (w.heap.size + 1)
  have hle := hm.out.params.le
  have hmx := hm.out.params.max
  skip
  have hbx := hid (boxPM w p m hs ha rfl rfl 67 55)
  unfold Gives
  go_enter Tryz.func105, Tryz.ntmps105
  go_wp2_with (first | (go_at_call 111; refine (within_any _ _ _).go.mono ?_; rintro e w' ⟨rfl, xw, rfl⟩) | (go_at_call 106; refine (allUsable_za p (p.classes.a) m.params _ (hm.out.params.mono END)).go.mono ?_; rintro e w' ⟨rfl, xw, rfl⟩) | (go_at_call 167; refine (usable_za p (p.classes.a) ⟨_, ⟨_, _⟩⟩ _).go.mono ?_; rintro e w' ⟨rfl, xw, rfl⟩) | (go_at_call 168; refine (hi.out _ (eMe.mono END hm.out) (hbx.out.1.mono END) (hbx.out.2.mono END)).go.mono ?_; rintro e w' ⟨rfl, xw, rfl⟩) | (go_at_call 171; refine (hh.out _ (eMe.mono END hm.out) (hbx.out.2.mono END)).go.mono ?_; rintro e w' ⟨rfl, xw, rfl⟩))
  all_goals first
    | (exfalso; omega)
    | (with_reducible refine wp_region_ext (by kernel_rfl) (by kernel_rfl) ?_
       (repeat (go_big_quiet_step (fail)))
       refine wpQuiet_nil ?_
       intro xw
       go_wp2_with (first | (go_at_call 111; refine (within_any _ _ _).go.mono ?_; rintro e w' ⟨rfl, xw, rfl⟩) | (go_at_call 106; refine (allUsable_za p (p.classes.a) m.params _ (hm.out.params.mono END)).go.mono ?_; rintro e w' ⟨rfl, xw, rfl⟩) | (go_at_call 167; refine (usable_za p (p.classes.a) ⟨_, ⟨_, _⟩⟩ _).go.mono ?_; rintro e w' ⟨rfl, xw, rfl⟩) | (go_at_call 168; refine (hi.out _ (eMe.mono END hm.out) (hbx.out.1.mono END) (hbx.out.2.mono END)).go.mono ?_; rintro e w' ⟨rfl, xw, rfl⟩) | (go_at_call 171; refine (hh.out _ (eMe.mono END hm.out) (hbx.out.2.mono END)).go.mono ?_; rintro e w' ⟨rfl, xw, rfl⟩))
       all_goals first
         | (exfalso; omega)
         | (go_ret; exact ⟨ret_int (by unfold metE; grind), END⟩))
    | (go_ret; exact ⟨ret_int (by unfold metE; grind), END⟩)
set_option maxRecDepth 100000 in
set_option maxHeartbeats 4000000 in
theorem method_fbf (p : Pk) (m : Me) (k : Int) (w : World)  (_hp : Hid (p.Ok w)) (hm : Hid (m.Ok w)) (hs : m.static = false) (ha : m.abs = false) (hb : below m.cls p.classes.xs.length = false) :
    Gives Tryz.prog 105 #[p.v, .int .i64 k, m.v] w (.int .i64 (metE p m)) := by
  have hi := ins_first p m w.heap.size (w.heap.size + 1)
  have hh := hds_first m (w.heap.size + 1)
  have hle := hm.out.params.le
  have hmx := hm.out.params.max
  skip
  have hbx := hid (boxPM w p m hs ha rfl rfl 67 55)
  unfold Gives
  go_enter Tryz.func105, Tryz.ntmps105
  go_wp2_with (first | (go_at_call 111; refine (within_any _ _ _).go.mono ?_; rintro e w' ⟨rfl, xw, rfl⟩) | (go_at_call 106; refine (allUsable_za p (p.classes.a) m.params _ (hm.out.params.mono END)).go.mono ?_; rintro e w' ⟨rfl, xw, rfl⟩) | (go_at_call 167; refine (usable_za p (p.classes.a) ⟨_, ⟨_, _⟩⟩ _).go.mono ?_; rintro e w' ⟨rfl, xw, rfl⟩) | (go_at_call 168; refine (hi.out _ (eMe.mono END hm.out) (hbx.out.1.mono END) (hbx.out.2.mono END)).go.mono ?_; rintro e w' ⟨rfl, xw, rfl⟩) | (go_at_call 171; refine (hh.out _ (eMe.mono END hm.out) (hbx.out.2.mono END)).go.mono ?_; rintro e w' ⟨rfl, xw, rfl⟩))
  all_goals first
    | (exfalso; omega)
    | (with_reducible refine wp_region_ext (by kernel_rfl) (by kernel_rfl) ?_
       (repeat (go_big_quiet_step (fail)))
       refine wpQuiet_nil ?_
       intro xw
       go_wp2_with (first | (go_at_call 111; refine (within_any _ _ _).go.mono ?_; rintro e w' ⟨rfl, xw, rfl⟩) | (go_at_call 106; refine (allUsable_za p (p.classes.a) m.params _ (hm.out.params.mono END)).go.mono ?_; rintro e w' ⟨rfl, xw, rfl⟩) | (go_at_call 167; refine (usable_za p (p.classes.a) ⟨_, ⟨_, _⟩⟩ _).go.mono ?_; rintro e w' ⟨rfl, xw, rfl⟩) | (go_at_call 168; refine (hi.out _ (eMe.mono END hm.out) (hbx.out.1.mono END) (hbx.out.2.mono END)).go.mono ?_; rintro e w' ⟨rfl, xw, rfl⟩) | (go_at_call 171; refine (hh.out _ (eMe.mono END hm.out) (hbx.out.2.mono END)).go.mono ?_; rintro e w' ⟨rfl, xw, rfl⟩))
       all_goals first
         | (exfalso; omega)
         | (go_ret; exact ⟨ret_int (by unfold metE; grind), END⟩))
    | (go_ret; exact ⟨ret_int (by unfold metE; grind), END⟩)
end Go.Proofs.YthagkijplklemaaGreatDoor
end

section
namespace Go.Proofs.YthagkijplklemaaGreatDoor
open Go.ChangeShapes Go.WideShapes Go.ChangeAt Go.RowKit Go.Sc
set_option maxRecDepth 100000 in
set_option maxHeartbeats 4000000 in
theorem method_ftt (p : Pk) (m : Me) (k : Int) (w : World) (j : Nat) (c : Cl) (_hp : Hid (p.Ok w)) (hm : Hid (m.Ok w)) (hs : m.static = false) (ha : m.abs = true) (hj : m.cls = (j : Int)) (hcl : Hid (p.classes.xs[j]? = some c)) (hI : c.isI = true) :
    Gives Tryz.prog 105 #[p.v, .int .i64 k, m.v] w (.int .i64 (metE p m)) := by
  have hi := ins_first p m w.heap.size (w.heap.size + 1)
  have hh := hds_first m (w.heap.size + 1)
  have hle := hm.out.params.le
  have hmx := hm.out.params.max
  obtain ⟨hok, b, off, hba, hbl, hc⟩ := _hp.out.classes.at_ j c hcl.out
  have hl2 := (List.getElem?_eq_some_iff.1 hcl.out).1
  have hle2 := _hp.out.classes.le
  have hmx2 := _hp.out.classes.max
  have hj1 : (0 : Int) ≤ (j : Int) := by omega
  have hj2 : (j : Int) < (p.classes.xs.length : Int) := by omega
  have HBA := hid hba
  have h0 := hc 0 _ rfl; have h1 := hc 1 _ rfl; have h2 := hc 2 _ rfl; have h3 := hc 3 _ rfl; have h4 := hc 4 _ rfl; have h5 := hc 5 _ rfl; have h6 := hc 6 _ rfl; simp only [Nat.add_zero] at h0
  haveI : InW b w := ⟨hbl⟩
  clear hc hok
  have hcI : classI p (j : Int) = c.isI := by unfold classI; rw [Int.toNat_natCast, hcl.out]
  rw [hI] at h2 hcI
  have hbl2 : below (j : Int) (p.classes.xs.length : Int) = true := by unfold below; simp; omega
  have hbx := hid (boxPM w p m hs ha hj HBA.out 67 55)
  unfold Gives
  go_enter Tryz.func105, Tryz.ntmps105
  go_wp2_with (first | (go_at_call 111; refine (within_any _ _ _).go.mono ?_; rintro e w' ⟨rfl, xw, rfl⟩) | (go_at_call 106; refine (allUsable_za p (some ⟨b, off, none⟩) m.params _ (hm.out.params.mono END)).go.mono ?_; rintro e w' ⟨rfl, xw, rfl⟩) | (go_at_call 167; refine (usable_za p (some ⟨b, off, none⟩) ⟨_, ⟨_, _⟩⟩ _).go.mono ?_; rintro e w' ⟨rfl, xw, rfl⟩) | (go_at_call 168; refine (hi.out _ (eMe.mono END hm.out) (hbx.out.1.mono END) (hbx.out.2.mono END)).go.mono ?_; rintro e w' ⟨rfl, xw, rfl⟩) | (go_at_call 171; refine (hh.out _ (eMe.mono END hm.out) (hbx.out.2.mono END)).go.mono ?_; rintro e w' ⟨rfl, xw, rfl⟩))
  all_goals first
    | (exfalso; omega)
    | (with_reducible refine wp_region_ext (by kernel_rfl) (by kernel_rfl) ?_
       (repeat (go_big_quiet_step (fail)))
       refine wpQuiet_nil ?_
       intro xw
       go_wp2_with (first | (go_at_call 111; refine (within_any _ _ _).go.mono ?_; rintro e w' ⟨rfl, xw, rfl⟩) | (go_at_call 106; refine (allUsable_za p (some ⟨b, off, none⟩) m.params _ (hm.out.params.mono END)).go.mono ?_; rintro e w' ⟨rfl, xw, rfl⟩) | (go_at_call 167; refine (usable_za p (some ⟨b, off, none⟩) ⟨_, ⟨_, _⟩⟩ _).go.mono ?_; rintro e w' ⟨rfl, xw, rfl⟩) | (go_at_call 168; refine (hi.out _ (eMe.mono END hm.out) (hbx.out.1.mono END) (hbx.out.2.mono END)).go.mono ?_; rintro e w' ⟨rfl, xw, rfl⟩) | (go_at_call 171; refine (hh.out _ (eMe.mono END hm.out) (hbx.out.2.mono END)).go.mono ?_; rintro e w' ⟨rfl, xw, rfl⟩))
       all_goals first
         | (exfalso; omega)
         | (go_ret; exact ⟨ret_int (by unfold metE; grind), END⟩))
    | (go_ret; exact ⟨ret_int (by unfold metE; grind), END⟩)
set_option maxRecDepth 100000 in
set_option maxHeartbeats 4000000 in
theorem method_ftf (p : Pk) (m : Me) (k : Int) (w : World) (j : Nat) (c : Cl) (_hp : Hid (p.Ok w)) (hm : Hid (m.Ok w)) (hs : m.static = false) (ha : m.abs = true) (hj : m.cls = (j : Int)) (hcl : Hid (p.classes.xs[j]? = some c)) (hI : c.isI = false) :
    Gives Tryz.prog 105 #[p.v, .int .i64 k, m.v] w (.int .i64 (metE p m)) := by
  have hi := ins_first p m w.heap.size (w.heap.size + 1)
  have hh := hds_first m (w.heap.size + 1)
  have hle := hm.out.params.le
  have hmx := hm.out.params.max
  obtain ⟨hok, b, off, hba, hbl, hc⟩ := _hp.out.classes.at_ j c hcl.out
  have hl2 := (List.getElem?_eq_some_iff.1 hcl.out).1
  have hle2 := _hp.out.classes.le
  have hmx2 := _hp.out.classes.max
  have hj1 : (0 : Int) ≤ (j : Int) := by omega
  have hj2 : (j : Int) < (p.classes.xs.length : Int) := by omega
  have HBA := hid hba
  have h0 := hc 0 _ rfl; have h1 := hc 1 _ rfl; have h2 := hc 2 _ rfl; have h3 := hc 3 _ rfl; have h4 := hc 4 _ rfl; have h5 := hc 5 _ rfl; have h6 := hc 6 _ rfl; simp only [Nat.add_zero] at h0
  haveI : InW b w := ⟨hbl⟩
  clear hc hok
  have hcI : classI p (j : Int) = c.isI := by unfold classI; rw [Int.toNat_natCast, hcl.out]
  rw [hI] at h2 hcI
  have hbl2 : below (j : Int) (p.classes.xs.length : Int) = true := by unfold below; simp; omega
  have hbx := hid (boxPM w p m hs ha hj HBA.out 67 55)
  unfold Gives
  go_enter Tryz.func105, Tryz.ntmps105
  go_wp2_with (first | (go_at_call 111; refine (within_any _ _ _).go.mono ?_; rintro e w' ⟨rfl, xw, rfl⟩) | (go_at_call 106; refine (allUsable_za p (some ⟨b, off, none⟩) m.params _ (hm.out.params.mono END)).go.mono ?_; rintro e w' ⟨rfl, xw, rfl⟩) | (go_at_call 167; refine (usable_za p (some ⟨b, off, none⟩) ⟨_, ⟨_, _⟩⟩ _).go.mono ?_; rintro e w' ⟨rfl, xw, rfl⟩) | (go_at_call 168; refine (hi.out _ (eMe.mono END hm.out) (hbx.out.1.mono END) (hbx.out.2.mono END)).go.mono ?_; rintro e w' ⟨rfl, xw, rfl⟩) | (go_at_call 171; refine (hh.out _ (eMe.mono END hm.out) (hbx.out.2.mono END)).go.mono ?_; rintro e w' ⟨rfl, xw, rfl⟩))
  all_goals first
    | (exfalso; omega)
    | (with_reducible refine wp_region_ext (by kernel_rfl) (by kernel_rfl) ?_
       (repeat (go_big_quiet_step (fail)))
       refine wpQuiet_nil ?_
       intro xw
       go_wp2_with (first | (go_at_call 111; refine (within_any _ _ _).go.mono ?_; rintro e w' ⟨rfl, xw, rfl⟩) | (go_at_call 106; refine (allUsable_za p (some ⟨b, off, none⟩) m.params _ (hm.out.params.mono END)).go.mono ?_; rintro e w' ⟨rfl, xw, rfl⟩) | (go_at_call 167; refine (usable_za p (some ⟨b, off, none⟩) ⟨_, ⟨_, _⟩⟩ _).go.mono ?_; rintro e w' ⟨rfl, xw, rfl⟩) | (go_at_call 168; refine (hi.out _ (eMe.mono END hm.out) (hbx.out.1.mono END) (hbx.out.2.mono END)).go.mono ?_; rintro e w' ⟨rfl, xw, rfl⟩) | (go_at_call 171; refine (hh.out _ (eMe.mono END hm.out) (hbx.out.2.mono END)).go.mono ?_; rintro e w' ⟨rfl, xw, rfl⟩))
       all_goals first
         | (exfalso; omega)
         | (go_ret; exact ⟨ret_int (by unfold metE; grind), END⟩))
    | (go_ret; exact ⟨ret_int (by unfold metE; grind), END⟩)
set_option maxRecDepth 100000 in
set_option maxHeartbeats 4000000 in
theorem method_fft (p : Pk) (m : Me) (k : Int) (w : World) (j : Nat) (c : Cl) (_hp : Hid (p.Ok w)) (hm : Hid (m.Ok w)) (hs : m.static = false) (ha : m.abs = false) (hj : m.cls = (j : Int)) (hcl : Hid (p.classes.xs[j]? = some c)) (hI : c.isI = true) :
    Gives Tryz.prog 105 #[p.v, .int .i64 k, m.v] w (.int .i64 (metE p m)) := by
  have hi := ins_first p m w.heap.size (w.heap.size + 1)
  have hh := hds_first m (w.heap.size + 1)
  have hle := hm.out.params.le
  have hmx := hm.out.params.max
  obtain ⟨hok, b, off, hba, hbl, hc⟩ := _hp.out.classes.at_ j c hcl.out
  have hl2 := (List.getElem?_eq_some_iff.1 hcl.out).1
  have hle2 := _hp.out.classes.le
  have hmx2 := _hp.out.classes.max
  have hj1 : (0 : Int) ≤ (j : Int) := by omega
  have hj2 : (j : Int) < (p.classes.xs.length : Int) := by omega
  have HBA := hid hba
  have h0 := hc 0 _ rfl; have h1 := hc 1 _ rfl; have h2 := hc 2 _ rfl; have h3 := hc 3 _ rfl; have h4 := hc 4 _ rfl; have h5 := hc 5 _ rfl; have h6 := hc 6 _ rfl; simp only [Nat.add_zero] at h0
  haveI : InW b w := ⟨hbl⟩
  clear hc hok
  have hcI : classI p (j : Int) = c.isI := by unfold classI; rw [Int.toNat_natCast, hcl.out]
  rw [hI] at h2 hcI
  have hbl2 : below (j : Int) (p.classes.xs.length : Int) = true := by unfold below; simp; omega
  have hbx := hid (boxPM w p m hs ha hj HBA.out 67 55)
  unfold Gives
  go_enter Tryz.func105, Tryz.ntmps105
  go_wp2_with (first | (go_at_call 111; refine (within_any _ _ _).go.mono ?_; rintro e w' ⟨rfl, xw, rfl⟩) | (go_at_call 106; refine (allUsable_za p (some ⟨b, off, none⟩) m.params _ (hm.out.params.mono END)).go.mono ?_; rintro e w' ⟨rfl, xw, rfl⟩) | (go_at_call 167; refine (usable_za p (some ⟨b, off, none⟩) ⟨_, ⟨_, _⟩⟩ _).go.mono ?_; rintro e w' ⟨rfl, xw, rfl⟩) | (go_at_call 168; refine (hi.out _ (eMe.mono END hm.out) (hbx.out.1.mono END) (hbx.out.2.mono END)).go.mono ?_; rintro e w' ⟨rfl, xw, rfl⟩) | (go_at_call 171; refine (hh.out _ (eMe.mono END hm.out) (hbx.out.2.mono END)).go.mono ?_; rintro e w' ⟨rfl, xw, rfl⟩))
  all_goals first
    | (exfalso; omega)
    | (with_reducible refine wp_region_ext (by kernel_rfl) (by kernel_rfl) ?_
       (repeat (go_big_quiet_step (fail)))
       refine wpQuiet_nil ?_
       intro xw
       go_wp2_with (first | (go_at_call 111; refine (within_any _ _ _).go.mono ?_; rintro e w' ⟨rfl, xw, rfl⟩) | (go_at_call 106; refine (allUsable_za p (some ⟨b, off, none⟩) m.params _ (hm.out.params.mono END)).go.mono ?_; rintro e w' ⟨rfl, xw, rfl⟩) | (go_at_call 167; refine (usable_za p (some ⟨b, off, none⟩) ⟨_, ⟨_, _⟩⟩ _).go.mono ?_; rintro e w' ⟨rfl, xw, rfl⟩) | (go_at_call 168; refine (hi.out _ (eMe.mono END hm.out) (hbx.out.1.mono END) (hbx.out.2.mono END)).go.mono ?_; rintro e w' ⟨rfl, xw, rfl⟩) | (go_at_call 171; refine (hh.out _ (eMe.mono END hm.out) (hbx.out.2.mono END)).go.mono ?_; rintro e w' ⟨rfl, xw, rfl⟩))
       all_goals first
         | (exfalso; omega)
         | (go_ret; exact ⟨ret_int (by unfold metE; grind), END⟩))
    | (go_ret; exact ⟨ret_int (by unfold metE; grind), END⟩)
end Go.Proofs.YthagkijplklemaaGreatDoor
end

section
namespace Go.Proofs.YthagkijplklemaaGreatDoor
open Go.ChangeShapes Go.WideShapes Go.ChangeAt Go.RowKit Go.Sc
theorem wrap_small (n : Nat) : (n : Int) ≤ 6 → wrap64 ((n : Int) + 1) = (n : Int) + 1 := by
  intro h
  unfold wrap64
  omega
set_option maxRecDepth 100000 in
set_option maxHeartbeats 4000000 in
theorem method_fff (p : Pk) (m : Me) (k : Int) (w : World) (j : Nat) (c : Cl) (_hp : Hid (p.Ok w)) (hm : Hid (m.Ok w)) (hs : m.static = false) (ha : m.abs = false) (hj : m.cls = (j : Int)) (hcl : Hid (p.classes.xs[j]? = some c)) (hI : c.isI = false) :
    Gives Tryz.prog 105 #[p.v, .int .i64 k, m.v] w (.int .i64 (metE p m)) := by
  have hi := ins_first p m w.heap.size (w.heap.size + 1)
  have hh := hds_first m (w.heap.size + 1)
  have hle := hm.out.params.le
  have hmx := hm.out.params.max
  obtain ⟨hok, b, off, hba, hbl, hc⟩ := _hp.out.classes.at_ j c hcl.out
  have hl2 := (List.getElem?_eq_some_iff.1 hcl.out).1
  have hle2 := _hp.out.classes.le
  have hmx2 := _hp.out.classes.max
  have hj1 : (0 : Int) ≤ (j : Int) := by omega
  have hj2 : (j : Int) < (p.classes.xs.length : Int) := by omega
  have HBA := hid hba
  have h0 := hc 0 _ rfl; have h1 := hc 1 _ rfl; have h2 := hc 2 _ rfl; have h3 := hc 3 _ rfl; have h4 := hc 4 _ rfl; have h5 := hc 5 _ rfl; have h6 := hc 6 _ rfl; simp only [Nat.add_zero] at h0
  haveI : InW b w := ⟨hbl⟩
  clear hc hok
  have hcI : classI p (j : Int) = c.isI := by unfold classI; rw [Int.toNat_natCast, hcl.out]
  rw [hI] at h2 hcI
  have hbl2 : below (j : Int) (p.classes.xs.length : Int) = true := by unfold below; simp; omega
  have hbx := hid (boxPM w p m hs ha hj HBA.out 67 55)
  unfold Gives
  go_enter Tryz.func105, Tryz.ntmps105
  go_wp2_with (first | (go_at_call 111; refine (within_any _ _ _).go.mono ?_; rintro e w' ⟨rfl, xw, rfl⟩) | (go_at_call 106; refine (allUsable_za p (some ⟨b, off, none⟩) m.params _ (hm.out.params.mono END)).go.mono ?_; rintro e w' ⟨rfl, xw, rfl⟩) | (go_at_call 167; refine (usable_za p (some ⟨b, off, none⟩) ⟨_, ⟨_, _⟩⟩ _).go.mono ?_; rintro e w' ⟨rfl, xw, rfl⟩) | (go_at_call 168; refine (hi.out _ (eMe.mono END hm.out) (hbx.out.1.mono END) (hbx.out.2.mono END)).go.mono ?_; rintro e w' ⟨rfl, xw, rfl⟩) | (go_at_call 171; refine (hh.out _ (eMe.mono END hm.out) (hbx.out.2.mono END)).go.mono ?_; rintro e w' ⟨rfl, xw, rfl⟩))
  all_goals first
    | (exfalso; omega)
    | (with_reducible refine wp_region_ext (by kernel_rfl) (by kernel_rfl) ?_
       (repeat (go_big_quiet_step (fail)))
       refine wpQuiet_nil ?_
       intro xw
       go_wp2_with (first | (go_at_call 111; refine (within_any _ _ _).go.mono ?_; rintro e w' ⟨rfl, xw, rfl⟩) | (go_at_call 106; refine (allUsable_za p (some ⟨b, off, none⟩) m.params _ (hm.out.params.mono END)).go.mono ?_; rintro e w' ⟨rfl, xw, rfl⟩) | (go_at_call 167; refine (usable_za p (some ⟨b, off, none⟩) ⟨_, ⟨_, _⟩⟩ _).go.mono ?_; rintro e w' ⟨rfl, xw, rfl⟩) | (go_at_call 168; refine (hi.out _ (eMe.mono END hm.out) (hbx.out.1.mono END) (hbx.out.2.mono END)).go.mono ?_; rintro e w' ⟨rfl, xw, rfl⟩) | (go_at_call 171; refine (hh.out _ (eMe.mono END hm.out) (hbx.out.2.mono END)).go.mono ?_; rintro e w' ⟨rfl, xw, rfl⟩))
       all_goals first
         | (exfalso; omega)
         | (go_ret; exact ⟨ret_int (by have hwr := wrap_small m.params.xs.length; unfold metE; grind), END⟩))
    | (go_ret; exact ⟨ret_int (by have hwr := wrap_small m.params.xs.length; unfold metE; grind), END⟩)
end Go.Proofs.YthagkijplklemaaGreatDoor
end

section
namespace Go.Proofs.YthagkijplklemaaGreatDoor
open Go.ChangeShapes Go.WideShapes Go.ChangeAt Go.RowKit Go.Sc
theorem contApp_take (p : Pk) (k : Nat) (x : Ap) (cb : Nat) (hk : k ≤ p.applets.xs.length) : Hid (∀ W : World, Pk.Ok W p → Ap.Ok W x → CellAt W cb 0 (.slice x.aid.a x.aid.xs.length x.aid.c) →
    Gives Tryz.prog 109 #[.slice p.applets.a k p.applets.c, .func (.func 110) #[] #[.pointer (some ⟨cb, 0, none⟩)]] W (.bool ((p.applets.xs.take k).any (fun y => bEq x.aid.xs y.aid.xs)))) := fun W hp hx hc => by
  have h := cont_app (p.applets.take k) (fun y => bEq x.aid.xs y.aid.xs) (c0 := .pointer (some ⟨cb, 0, none⟩)) W (hp.applets.take k)
    (fun j y W' hb hy => applets11_any y cb x.aid W' (((hp.applets.take k).mono hb).at_ j y hy).1.1 (hx.1.mono hb) (hc.mono hb))
  rwa [Sl.v, Sl.take_len hk] at h
/-- How many virtual methods class number n has. -/
def classV (p : Pk) (n : Int) : Nat := match p.classes.xs[n.toNat]? with | some c => c.virt.xs.length | none => 0
/-- Whether a method is one that installs. -/
def instB (m : Me) : Bool := m.static && (eqF (fun x y => decide (x = y)) m.params.xs [(⟨2, ⟨0, 0⟩⟩ : Ty)] && (decide (m.result.k = 5) && (decide (m.result.c.p = 255) && decide (m.result.c.c = 0))))
def methI (p : Pk) (n : Int) : Bool := match p.methods.xs[n.toNat]? with | some m => instB m | none => false
def appE (p : Pk) (k : Nat) (x : Ap) : Int :=
  if isName x.aid.xs.length = false then 1
  else if (p.applets.xs.take k).any (fun y => bEq x.aid.xs y.aid.xs) = true then 13
  else if below x.cls p.classes.xs.length = false ∨ below x.inst p.methods.xs.length = false then 2
  else if classI p x.cls = true ∨ classV p x.cls < 4 then 4
  else if methI p x.inst = true then 0 else 22
theorem okTy1 (W : World) (t : TypeId) (b : Nat) (hb : b = W.heap.size) (k : Int) (hk : i64ok k) : (⟨some ⟨b, 0, none⟩, 1, [⟨k, ⟨0, 0⟩⟩]⟩ : Sl Ty).Ok eTy 3 (W.alloc (.cells #[.int .i64 k, .int .i64 0, .int .i64 0] t)) := by
  subst hb
  refine ⟨by simp, by simp, by simp, fun j x hx => ?_⟩
  match j, hx with
  | 0, hx =>
    simp at hx; subst hx
    refine ⟨⟨hk, by simp [i64ok], by simp [i64ok]⟩, _, _, rfl, by simp, fun j v hv => ?_⟩
    rw [World.cell?_alloc_new]
    match j, hv with
    | 0, hv => simpa [eTy] using hv
    | 1, hv => simpa [eTy] using hv
    | 2, hv => simpa [eTy] using hv
theorem applets1_bad (p : Pk) (k : Nat) (x : Ap) (cb : Nat) (w : World) (hp : Hid (p.Ok w)) (hx : Hid (x.Ok w)) (hc : Hid (PkAt w cb p)) (hk : k < p.applets.xs.length)
    (hb : below x.cls p.classes.xs.length = false ∨ below x.inst p.methods.xs.length = false) :
    Gives Tryz.prog 108 #[.int .i64 k, x.v, .pointer (some ⟨cb, 0, none⟩)] w (.int .i64 (appE p k x)) := by
  obtain ⟨hlt, c0, c1, c2, c3, c4, c5, c6, c7⟩ := hc.out
  haveI : InW cb w := ⟨hlt⟩
  clear c0 c1 c2 c3 c6 hlt
  have hle := hp.out.applets.le
  have hmx := hp.out.applets.max
  have ht := contApp_take p k x w.heap.size (by omega)
  have hk1 : (0 : Int) ≤ (k : Int) := by omega
  have hk2 : (k : Int) ≤ (p.applets.c : Int) := by omega
  unfold Gives
  rcases hb with hb | hb
  · go_enter Tryz.func108, Tryz.ntmps108
    go_wp2_with (first | (go_at_call 25; refine (identifier_any _ _ _ _).go.mono ?_; rintro e w' ⟨rfl, xw, rfl⟩) | (go_at_call 109; refine (ht.out _ (hp.out.mono END) (eAp.mono END hx.out) (CellAt.mono (CellAt.new w _ _ 0 _ rfl) END)).go.mono ?_; rintro e w' ⟨rfl, xw, rfl⟩) | (go_at_call 111; refine (within_any _ _ _).go.mono ?_; rintro e w' ⟨rfl, xw, rfl⟩))
    all_goals
      go_ret
      exact ⟨ret_int (by unfold appE; grind), END⟩
  · cases hb1 : below x.cls p.classes.xs.length
    all_goals
      go_enter Tryz.func108, Tryz.ntmps108
      go_wp2_with (first | (go_at_call 25; refine (identifier_any _ _ _ _).go.mono ?_; rintro e w' ⟨rfl, xw, rfl⟩) | (go_at_call 109; refine (ht.out _ (hp.out.mono END) (eAp.mono END hx.out) (CellAt.mono (CellAt.new w _ _ 0 _ rfl) END)).go.mono ?_; rintro e w' ⟨rfl, xw, rfl⟩) | (go_at_call 111; refine (within_any _ _ _).go.mono ?_; rintro e w' ⟨rfl, xw, rfl⟩))
      all_goals
        go_ret
        exact ⟨ret_int (by unfold appE; grind), END⟩
set_option maxRecDepth 20000 in
set_option maxHeartbeats 1000000 in
theorem applets1_good (p : Pk) (k : Nat) (x : Ap) (cb : Nat) (w : World) (hp : Hid (p.Ok w)) (hx : Hid (x.Ok w)) (hc : Hid (PkAt w cb p)) (hg : Hid (ObjAt w 0)) (hk : k < p.applets.xs.length)
    (j l : Nat) (c : Cl) (m : Me) (hj : x.cls = (j : Int)) (hl : x.inst = (l : Int)) (hcl : Hid (p.classes.xs[j]? = some c)) (hme : Hid (p.methods.xs[l]? = some m)) {bI bS : Bool} (hI : c.isI = bI) (hS : m.static = bS) :
    Gives Tryz.prog 108 #[.int .i64 k, x.v, .pointer (some ⟨cb, 0, none⟩)] w (.int .i64 (appE p k x)) := by
  obtain ⟨hlt, c0, c1, c2, c3, c4, c5, c6, c7⟩ := hc.out
  haveI : InW cb w := ⟨hlt⟩
  clear c0 c1 c2 c3 c6 hlt
  have hle := hp.out.applets.le
  have hmx := hp.out.applets.max
  have ht := contApp_take p k x w.heap.size (by omega)
  have hk1 : (0 : Int) ≤ (k : Int) := by omega
  have hk2 : (k : Int) ≤ (p.applets.c : Int) := by omega
  obtain ⟨hglt, g0, g1⟩ := hg.out
  haveI : InW 0 w := ⟨hglt⟩
  obtain ⟨hok, b, off, hba, hbl, hcc⟩ := hp.out.classes.at_ j c hcl.out
  obtain ⟨hok', b', off', hba', hbl', hcc'⟩ := hp.out.methods.at_ l m hme.out
  have hl1 := (List.getElem?_eq_some_iff.1 hcl.out).1
  have hl2 := (List.getElem?_eq_some_iff.1 hme.out).1
  have hle2 := hp.out.classes.le
  have hmx2 := hp.out.classes.max
  have hle3 := hp.out.methods.le
  have hmx3 := hp.out.methods.max
  have hj1 : (0 : Int) ≤ (j : Int) := by omega
  have hj2 : (j : Int) < (p.classes.xs.length : Int) := by omega
  have hj3 : (0 : Int) ≤ (l : Int) := by omega
  have hj4 : (l : Int) < (p.methods.xs.length : Int) := by omega
  have h0 := hcc 0 _ rfl; have h1 := hcc 1 _ rfl; have h2 := hcc 2 _ rfl; have h3 := hcc 3 _ rfl; have h4 := hcc 4 _ rfl; have h5 := hcc 5 _ rfl; have h6 := hcc 6 _ rfl; simp only [Nat.add_zero] at h0
  have d0 := hcc' 0 _ rfl; have d1 := hcc' 1 _ rfl; have d2 := hcc' 2 _ rfl; have d3 := hcc' 3 _ rfl; have d4 := hcc' 4 _ rfl; have d5 := hcc' 5 _ rfl; have d6 := hcc' 6 _ rfl; have d7 := hcc' 7 _ rfl; have d8 := hcc' 8 _ rfl; have d9 := hcc' 9 _ rfl; have d10 := hcc' 10 _ rfl; simp only [Nat.add_zero] at d0
  haveI : InW b w := ⟨hbl⟩
  haveI : InW b' w := ⟨hbl'⟩
  have hcI : classI p (j : Int) = c.isI := by unfold classI; rw [Int.toNat_natCast, hcl.out]
  have hcV : classV p (j : Int) = c.virt.xs.length := by unfold classV; rw [Int.toNat_natCast, hcl.out]
  have hmI : methI p (l : Int) = instB m := by unfold methI; rw [Int.toNat_natCast, hme.out]
  have hb1 : below (j : Int) (p.classes.xs.length : Int) = true := by unfold below; simp; omega
  have hb2 : below (l : Int) (p.methods.xs.length : Int) = true := by unfold below; simp; omega
  have HI := hid hcI
  have HV := hid hcV
  have HM := hid hmI
  have hm : Hid (m.Ok w) := hok'
  rw [hI] at h2
  rw [hS] at d0
  have HS := hid hS
  have HJ := hid hI
  clear hcc hcc' hok hok' hcI hcV hmI hI hS
  cases bI <;> cases bS
  all_goals
    unfold Gives
    go_enter Tryz.func108, Tryz.ntmps108
    go_wp2_with (first | (go_at_call 53; refine (eq_tys m.params ⟨some ⟨_, 0, none⟩, _, [⟨2, ⟨0, 0⟩⟩]⟩ _ (hm.out.params.mono END) (okTy1 _ _ _ (by simp) 2 (by simp [i64ok]))).go.mono ?_; rintro e w' ⟨rfl, xw, rfl⟩) | first | (go_at_call 25; refine (identifier_any _ _ _ _).go.mono ?_; rintro e w' ⟨rfl, xw, rfl⟩) | (go_at_call 109; refine (ht.out _ (hp.out.mono END) (eAp.mono END hx.out) (CellAt.mono (CellAt.new w _ _ 0 _ rfl) END)).go.mono ?_; rintro e w' ⟨rfl, xw, rfl⟩) | (go_at_call 111; refine (within_any _ _ _).go.mono ?_; rintro e w' ⟨rfl, xw, rfl⟩))
    all_goals first
      | (exfalso; omega)
      | (go_ret; exact ⟨ret_int (by have h1 := HI.out; have h2 := HV.out; have h3 := HM.out; have h4 := HS.out; have h5 := HJ.out; unfold instB at h3; unfold appE; grind), END⟩)
end Go.Proofs.YthagkijplklemaaGreatDoor
end

section
namespace Go.Proofs.YthagkijplklemaaGreatDoor
open Go.ChangeShapes Go.WideShapes Go.ChangeAt Go.RowKit Go.Sc
theorem class2_any (p : Pk) (i : Nat) (m n : Int) (x : Cl) (cb nb xb : Nat) (w : World) (hp : Hid (p.Ok w)) (hx : Hid (x.Ok w)) (hi : i < x.virt.xs.length) (hc : Hid (PkAt w cb p)) (hn : Hid (CellAt w nb 0 (.int .i64 n))) (hxb : Hid (ClAt w xb x)) :
    Gives Tryz.prog 158 #[.int .i64 i, .int .i64 m, .pointer (some ⟨cb, 0, none⟩), .pointer (some ⟨nb, 0, none⟩), .pointer (some ⟨xb, 0, none⟩)] w (.int .i64 (virtE p n x i m)) := by
  obtain ⟨hlt, c0, c1, c2, c3, c4, c5, c6, c7⟩ := hc.out
  haveI : InW cb w := ⟨hlt⟩
  obtain ⟨hlt', d0⟩ := hn.out
  haveI : InW nb w := ⟨hlt'⟩
  obtain ⟨hlt2, e0, e1, e2, e3, e4, e5, e6⟩ := hxb.out
  haveI : InW xb w := ⟨hlt2⟩
  unfold Gives
  go_enter Tryz.func158, Tryz.ntmps158
  go_wp2_with ((go_at_call 159; refine (virtual_any p n x i m _ (hp.out.mono END) (eCl.mono END hx.out) hi).go.mono ?_; rintro e w' ⟨rfl, xw, rfl⟩))
  go_ret
  exact ⟨rfl, END⟩
set_option maxRecDepth 20000 in
theorem first_int (s : Sl Int) (F : Nat → Int → Int) (c0 c1 c2 : Value) (w : World) (hs : Hid (s.Ok eInt 1 w))
    (hf : Hid (∀ (k : Nat) (x : Int) (W : World), Below w.heap.size w W → s.xs[k]? = some x → Gives Tryz.prog 158 #[.int .i64 k, .int .i64 x, c0, c1, c2] W (.int .i64 (F k x)))) :
    Gives Tryz.prog 157 #[s.v, .func (.func 158) #[] #[c0, c1, c2]] w (.int .i64 (firstE F 0 s.xs)) := by
  obtain ⟨a, c, xs⟩ := s
  have hle := hs.out.le
  have hmx := hs.out.max
  simp only at hle hmx
  show Gives _ _ #[.slice a xs.length c, .func (.func 158) _ _] _ _
  unfold Gives
  go_enter Tryz.func157, Tryz.ntmps157
  go_wp2_with fail
  go_loopw [10] (fun i wr => ∃ k : Nat, k ≤ xs.length ∧ i = .int .i64 k ∧ (∀ (j : Nat) (x : Int), j < k → xs[j]? = some x → F j x = 0) ∧ ∃ x : Ext w, wr = x.val) (fun i _ => xs.length - (intOf i).toNat)
  case atStart => exact ⟨0, Nat.zero_le _, rfl, fun _ _ h => absurd h (by omega), ⟨w, Below.refl _ _⟩, rfl⟩
  case round =>
    obtain ⟨k, hk, rfl, hz, x, rfl⟩ := hrel
    have HZ := hid hz
    clear hz
    by_cases hlt : k < xs.length
    · obtain ⟨y, hy⟩ := getElem?_of_lt hlt
      obtain ⟨hok, b, off, hba, hbl, hc⟩ := hs.out.at_ k y hy
      simp only at hba
      subst hba
      have h0 := hc 0 _ rfl; simp only [Nat.add_zero, Nat.mul_one] at h0
      haveI : InW b w := ⟨hbl⟩
      have HY := hid hy
      clear hc hok hy hbl
      have hk1 : (0 : Int) ≤ (k : Int) := by omega
      have hk2 : (k : Int) < (xs.length : Int) := by omega
      by_cases hF : F k y = 0
      · have hF' : (F k y != 0) = false := by simp [hF]
        have HF := hid hF
        clear hF
        go_wp2_with (go_at_call 158; refine (hf.out k y _ END HY.out).go.mono ?_; rintro e w' ⟨rfl, x, rfl⟩)
        go_roundw
        case rel => exact ⟨k + 1, by omega, by go_num, fun j z hj hzz => by
            rcases Nat.lt_succ_iff_lt_or_eq.1 hj with h | rfl
            · exact HZ.out j z h hzz
            · have := HY.out.symm.trans hzz; cases this; exact HF.out, ⟨_, END⟩, rfl⟩
        case measure => simp [intOf]; omega
      · have hF' : (F k y != 0) = true := by simp [hF]
        have HF := hid hF
        clear hF
        go_wp2_with (go_at_call 158; refine (hf.out k y _ END HY.out).go.mono ?_; rintro e w' ⟨rfl, x, rfl⟩)
        go_ret
        refine ⟨ret_int ?_, END⟩
        have := firstE_some (F := F) (n := 0) (k := k) (y := y) (by simpa using HZ.out) HY.out (by simpa using HF.out)
        simp only [Nat.zero_add] at this
        exact this.symm
    · go_wp2_with fail
      go_ret
      refine ⟨ret_int ?_, END⟩
      refine (firstE_none fun j z hz => ?_).symm
      rw [Nat.zero_add]
      exact HZ.out j z (by have := (List.getElem?_eq_some_iff.1 hz).1; omega) hz
theorem class32_any (m : Int) (w : World) : Gives Tryz.prog 166 #[.int .i64 m] w (.bool (!below m 16)) := by
  unfold Gives
  go_enter Tryz.func166, Tryz.ntmps166
  go_wp2_with ((go_at_call 111; refine (within_any _ _ _).go.mono ?_; rintro e w' ⟨rfl, xw, rfl⟩))
  all_goals
    go_ret
    exact ⟨ret_bool (by grind), END⟩
set_option maxRecDepth 20000 in
theorem cont_int_idx (s : Sl Int) (F : Int → Bool)  (w : World) (hs : Hid (s.Ok eInt 1 w))
    (hf : Hid (∀ (k : Nat) (x : Int) (W : World), Below w.heap.size w W → s.xs[k]? = some x → Gives Tryz.prog 166 #[.int .i64 x] W (.bool (F x)))) :
    Gives Tryz.prog 211 #[s.v, .func (.func 166) #[] #[]] w (.int .i64 (idxF F 0 s.xs)) := by
  obtain ⟨a, c, xs⟩ := s
  have hle := hs.out.le
  have hmx := hs.out.max
  simp only at hle hmx
  show Gives _ _ #[.slice a xs.length c, .func (.func 166) _ _] _ _
  unfold Gives
  go_enter Tryz.func211, Tryz.ntmps211
  go_wp2_with fail
  go_loopw [8] (fun i wr => ∃ k : Nat, k ≤ xs.length ∧ i = .int .i64 k ∧ (∀ (j : Nat) (x : Int), j < k → xs[j]? = some x → F x = false) ∧ ∃ x : Ext w, wr = x.val) (fun i _ => xs.length - (intOf i).toNat)
  case atStart => exact ⟨0, Nat.zero_le _, rfl, fun _ _ h => absurd h (by omega), ⟨w, Below.refl _ _⟩, rfl⟩
  case round =>
    obtain ⟨k, hk, rfl, hz, x, rfl⟩ := hrel
    have HZ := hid hz
    clear hz
    by_cases hlt : k < xs.length
    · obtain ⟨y, hy⟩ := getElem?_of_lt hlt
      obtain ⟨hok, b, off, hba, hbl, hc⟩ := hs.out.at_ k y hy
      simp only at hba
      subst hba
      have h0 := hc 0 _ rfl; simp only [Nat.add_zero, Nat.mul_one] at h0
      haveI : InW b w := ⟨hbl⟩
      have HY := hid hy
      clear hc hok hy hbl
      have hk1 : (0 : Int) ≤ (k : Int) := by omega
      have hk2 : (k : Int) < (xs.length : Int) := by omega
      by_cases hF : F y = false
      · have HF := hid hF
        go_wp2_with (go_at_call 166; refine (hf.out k y _ END HY.out).go.mono ?_; rintro e w' ⟨rfl, x, rfl⟩)
        go_roundw
        case rel => exact ⟨k + 1, by omega, by go_num, fun j z hj hzz => by
            rcases Nat.lt_succ_iff_lt_or_eq.1 hj with h | rfl
            · exact HZ.out j z h hzz
            · have := HY.out.symm.trans hzz; cases this; exact HF.out, ⟨_, END⟩, rfl⟩
        case measure => simp [intOf]; omega
      · simp only [Bool.not_eq_false] at hF
        have HF := hid hF
        go_wp2_with (go_at_call 166; refine (hf.out k y _ END HY.out).go.mono ?_; rintro e w' ⟨rfl, x, rfl⟩)
        go_ret
        refine ⟨ret_int ?_, END⟩
        have := idxF_some (p := F) (n := 0) (k := k) (y := y) HZ.out HY.out HF.out
        simp only [Nat.zero_add] at this
        exact this.symm
    · go_wp2_with fail
      go_ret
      refine ⟨ret_int ?_, END⟩
      refine (idxF_none fun j z hz => ?_).symm
      exact HZ.out j z (by have := (List.getElem?_eq_some_iff.1 hz).1; omega) hz
theorem cont_int (s : Sl Int) (F : Int → Bool)  (w : World) (hs : Hid (s.Ok eInt 1 w))
    (hf : Hid (∀ (k : Nat) (x : Int) (W : World), Below w.heap.size w W → s.xs[k]? = some x → Gives Tryz.prog 166 #[.int .i64 x] W (.bool (F x)))) :
    Gives Tryz.prog 165 #[s.v, .func (.func 166) #[] #[]] w (.bool (s.xs.any F)) := by
  obtain ⟨a, c, xs⟩ := s
  show Gives _ _ #[.slice a xs.length c, .func (.func 166) _ _] _ _
  unfold Gives
  go_enter Tryz.func165, Tryz.ntmps165
  go_wp2_with (go_at_call 211; refine (cont_int_idx ⟨a, c, xs⟩ F w hs hf).go.mono ?_; rintro e w' ⟨rfl, x, rfl⟩)
  go_ret
  exact ⟨ret_bool idxF_any, END⟩
theorem class31_any (z : Im) (yb : Nat) (y : Rf) (w : World) (h0 : Hid (CellAt w yb 0 (.int .i64 y.p))) (h1 : Hid (CellAt w yb 1 (.int .i64 y.c))) :
    Gives Tryz.prog 164 #[z.v, .pointer (some ⟨yb, 0, none⟩)] w (.bool (rfEq z.i y)) := by
  have d0 := h0.out.at_
  have d1 := h1.out.at_
  haveI : InW yb w := ⟨h0.out.lt⟩
  unfold Gives
  go_enter Tryz.func164, Tryz.ntmps164
  go_wp2_with fail
  all_goals
    go_ret
    exact ⟨ret_bool (by unfold rfEq; grind), END⟩
set_option maxRecDepth 20000 in
theorem cont_impl_idx (s : Sl Im) (F : Im → Bool) {c0 : Value} (w : World) (hs : Hid (s.Ok eIm 3 w))
    (hf : Hid (∀ (k : Nat) (x : Im) (W : World), Below w.heap.size w W → s.xs[k]? = some x → Gives Tryz.prog 164 #[x.v, c0] W (.bool (F x)))) :
    Gives Tryz.prog 210 #[s.v, .func (.func 164) #[] #[c0]] w (.int .i64 (idxF F 0 s.xs)) := by
  obtain ⟨a, c, xs⟩ := s
  have hle := hs.out.le
  have hmx := hs.out.max
  simp only at hle hmx
  show Gives _ _ #[.slice a xs.length c, .func (.func 164) _ _] _ _
  unfold Gives
  go_enter Tryz.func210, Tryz.ntmps210
  go_wp2_with fail
  go_loopw [8] (fun i wr => ∃ k : Nat, k ≤ xs.length ∧ i = .int .i64 k ∧ (∀ (j : Nat) (x : Im), j < k → xs[j]? = some x → F x = false) ∧ ∃ x : Ext w, wr = x.val) (fun i _ => xs.length - (intOf i).toNat)
  case atStart => exact ⟨0, Nat.zero_le _, rfl, fun _ _ h => absurd h (by omega), ⟨w, Below.refl _ _⟩, rfl⟩
  case round =>
    obtain ⟨k, hk, rfl, hz, x, rfl⟩ := hrel
    have HZ := hid hz
    clear hz
    by_cases hlt : k < xs.length
    · obtain ⟨y, hy⟩ := getElem?_of_lt hlt
      obtain ⟨hok, b, off, hba, hbl, hc⟩ := hs.out.at_ k y hy
      simp only at hba
      subst hba
      have h0 := hc 0 _ rfl; have h1 := hc 1 _ rfl; have h2 := hc 2 _ rfl; simp only [Nat.add_zero] at h0
      haveI : InW b w := ⟨hbl⟩
      have HY := hid hy
      clear hc hok hy hbl
      have hk1 : (0 : Int) ≤ (k : Int) := by omega
      have hk2 : (k : Int) < (xs.length : Int) := by omega
      by_cases hF : F y = false
      · have HF := hid hF
        go_wp2_with (go_at_call 164; refine (hf.out k y _ END HY.out).go.mono ?_; rintro e w' ⟨rfl, x, rfl⟩)
        go_roundw
        case rel => exact ⟨k + 1, by omega, by go_num, fun j z hj hzz => by
            rcases Nat.lt_succ_iff_lt_or_eq.1 hj with h | rfl
            · exact HZ.out j z h hzz
            · have := HY.out.symm.trans hzz; cases this; exact HF.out, ⟨_, END⟩, rfl⟩
        case measure => simp [intOf]; omega
      · simp only [Bool.not_eq_false] at hF
        have HF := hid hF
        go_wp2_with (go_at_call 164; refine (hf.out k y _ END HY.out).go.mono ?_; rintro e w' ⟨rfl, x, rfl⟩)
        go_ret
        refine ⟨ret_int ?_, END⟩
        have := idxF_some (p := F) (n := 0) (k := k) (y := y) HZ.out HY.out HF.out
        simp only [Nat.zero_add] at this
        exact this.symm
    · go_wp2_with fail
      go_ret
      refine ⟨ret_int ?_, END⟩
      refine (idxF_none fun j z hz => ?_).symm
      exact HZ.out j z (by have := (List.getElem?_eq_some_iff.1 hz).1; omega) hz
theorem cont_impl (s : Sl Im) (F : Im → Bool) {c0 : Value} (w : World) (hs : Hid (s.Ok eIm 3 w))
    (hf : Hid (∀ (k : Nat) (x : Im) (W : World), Below w.heap.size w W → s.xs[k]? = some x → Gives Tryz.prog 164 #[x.v, c0] W (.bool (F x)))) :
    Gives Tryz.prog 163 #[s.v, .func (.func 164) #[] #[c0]] w (.bool (s.xs.any F)) := by
  obtain ⟨a, c, xs⟩ := s
  show Gives _ _ #[.slice a xs.length c, .func (.func 164) _ _] _ _
  unfold Gives
  go_enter Tryz.func163, Tryz.ntmps163
  go_wp2_with (go_at_call 210; refine (cont_impl_idx ⟨a, c, xs⟩ F w hs hf).go.mono ?_; rintro e w' ⟨rfl, x, rfl⟩)
  go_ret
  exact ⟨ret_bool idxF_any, END⟩
theorem contImpl_take (x : Cl) (k : Nat) (y : Im) (yb : Nat) (hk : k ≤ x.impls.xs.length) : Hid (∀ W : World, x.impls.Ok eIm 3 W → CellAt W yb 0 (.int .i64 y.i.p) → CellAt W yb 1 (.int .i64 y.i.c) →
    Gives Tryz.prog 163 #[.slice x.impls.a k x.impls.c, .func (.func 164) #[] #[.pointer (some ⟨yb, 0, none⟩)]] W (.bool ((x.impls.xs.take k).any (fun z => rfEq z.i y.i)))) := fun W hx h0 h1 => by
  have h := cont_impl (x.impls.take k) (fun z => rfEq z.i y.i) (c0 := .pointer (some ⟨yb, 0, none⟩)) W (hx.take k)
    (fun j z W' hb hz => class31_any z yb y.i W' (h0.mono hb) (h1.mono hb))
  rwa [Sl.v, Sl.take_len hk] at h
def implE (p : Pk) (x : Cl) (k : Nat) (y : Im) : Int :=
  if inRange p.imports.xs.length p.classes.xs.length y.i then
    if (x.impls.xs.take k).any (fun z => rfEq z.i y.i) then 13
    else if 16 < y.ms.xs.length then 3
    else if y.ms.xs.any (fun m => !below m 16) then 2 else 0
  else 2
theorem class3_any (p : Pk) (k : Nat) (y : Im) (x : Cl) (cb xb : Nat) (w : World) (hx : Hid (x.Ok w)) (hy : Hid (y.Ok w)) (hk : k < x.impls.xs.length) (hc : Hid (PkAt w cb p)) (hxb : Hid (ClAt w xb x)) :
    Gives Tryz.prog 161 #[.int .i64 k, y.v, .pointer (some ⟨cb, 0, none⟩), .pointer (some ⟨xb, 0, none⟩)] w (.int .i64 (implE p x k y)) := by
  obtain ⟨hlt, c0, c1, c2, c3, c4, c5, c6, c7⟩ := hc.out
  haveI : InW cb w := ⟨hlt⟩
  obtain ⟨hlt2, e0, e1, e2, e3, e4, e5, e6⟩ := hxb.out
  haveI : InW xb w := ⟨hlt2⟩
  clear e0 e1 e2 e3 e4 e5
  have hle := hx.out.impls.le
  have hmx := hx.out.impls.max
  have ht := contImpl_take x k y w.heap.size (by omega)
  have hk1 : (0 : Int) ≤ (k : Int) := by omega
  have hk2 : (k : Int) ≤ (x.impls.c : Int) := by omega
  have hf : Hid (∀ W : World, Ints W y.ms → Gives Tryz.prog 165 #[.slice y.ms.a y.ms.xs.length y.ms.c, .func (.func 166) #[] #[]] W (.bool (y.ms.xs.any fun m => !below m 16))) :=
    fun W h => cont_int y.ms _ W h (fun j m W' _ _ => class32_any m W')
  unfold Gives
  go_enter Tryz.func161, Tryz.ntmps161
  go_wp2_with (first | (go_at_call 162; refine (inRange_any p y.i _).go.mono ?_; rintro e w' ⟨rfl, xw, rfl⟩) | (go_at_call 163; refine (ht.out _ (hx.out.impls.mono END) ((CellAt.new w _ _ 0 _ rfl).mono END) ((CellAt.new w _ _ 1 _ rfl).mono END)).go.mono ?_; rintro e w' ⟨rfl, xw, rfl⟩) | (go_at_call 165; refine (hf.out _ (hy.out.2.2.mono END)).go.mono ?_; rintro e w' ⟨rfl, xw, rfl⟩))
  all_goals
    go_ret
    exact ⟨ret_int (by unfold implE; grind), END⟩
set_option maxRecDepth 20000 in
theorem first_impl (s : Sl Im) (F : Nat → Im → Int) (c0 c1 : Value) (w : World) (hs : Hid (s.Ok eIm 3 w))
    (hf : Hid (∀ (k : Nat) (x : Im) (W : World), Below w.heap.size w W → s.xs[k]? = some x → Gives Tryz.prog 161 #[.int .i64 k, x.v, c0, c1] W (.int .i64 (F k x)))) :
    Gives Tryz.prog 160 #[s.v, .func (.func 161) #[] #[c0, c1]] w (.int .i64 (firstE F 0 s.xs)) := by
  obtain ⟨a, c, xs⟩ := s
  have hle := hs.out.le
  have hmx := hs.out.max
  simp only at hle hmx
  show Gives _ _ #[.slice a xs.length c, .func (.func 161) _ _] _ _
  unfold Gives
  go_enter Tryz.func160, Tryz.ntmps160
  go_wp2_with fail
  go_loopw [10] (fun i wr => ∃ k : Nat, k ≤ xs.length ∧ i = .int .i64 k ∧ (∀ (j : Nat) (x : Im), j < k → xs[j]? = some x → F j x = 0) ∧ ∃ x : Ext w, wr = x.val) (fun i _ => xs.length - (intOf i).toNat)
  case atStart => exact ⟨0, Nat.zero_le _, rfl, fun _ _ h => absurd h (by omega), ⟨w, Below.refl _ _⟩, rfl⟩
  case round =>
    obtain ⟨k, hk, rfl, hz, x, rfl⟩ := hrel
    have HZ := hid hz
    clear hz
    by_cases hlt : k < xs.length
    · obtain ⟨y, hy⟩ := getElem?_of_lt hlt
      obtain ⟨hok, b, off, hba, hbl, hc⟩ := hs.out.at_ k y hy
      simp only at hba
      subst hba
      have h0 := hc 0 _ rfl; have h1 := hc 1 _ rfl; have h2 := hc 2 _ rfl; simp only [Nat.add_zero] at h0
      haveI : InW b w := ⟨hbl⟩
      have HY := hid hy
      clear hc hok hy hbl
      have hk1 : (0 : Int) ≤ (k : Int) := by omega
      have hk2 : (k : Int) < (xs.length : Int) := by omega
      by_cases hF : F k y = 0
      · have hF' : (F k y != 0) = false := by simp [hF]
        have HF := hid hF
        clear hF
        go_wp2_with (go_at_call 161; refine (hf.out k y _ END HY.out).go.mono ?_; rintro e w' ⟨rfl, x, rfl⟩)
        go_roundw
        case rel => exact ⟨k + 1, by omega, by go_num, fun j z hj hzz => by
            rcases Nat.lt_succ_iff_lt_or_eq.1 hj with h | rfl
            · exact HZ.out j z h hzz
            · have := HY.out.symm.trans hzz; cases this; exact HF.out, ⟨_, END⟩, rfl⟩
        case measure => simp [intOf]; omega
      · have hF' : (F k y != 0) = true := by simp [hF]
        have HF := hid hF
        clear hF
        go_wp2_with (go_at_call 161; refine (hf.out k y _ END HY.out).go.mono ?_; rintro e w' ⟨rfl, x, rfl⟩)
        go_ret
        refine ⟨ret_int ?_, END⟩
        have := firstE_some (F := F) (n := 0) (k := k) (y := y) (by simpa using HZ.out) HY.out (by simpa using HF.out)
        simp only [Nat.zero_add] at this
        exact this.symm
    · go_wp2_with fail
      go_ret
      refine ⟨ret_int ?_, END⟩
      refine (firstE_none fun j z hz => ?_).symm
      rw [Nat.zero_add]
      exact HZ.out j z (by have := (List.getElem?_eq_some_iff.1 hz).1; omega) hz
end Go.Proofs.YthagkijplklemaaGreatDoor
end
