/- Same: the comparison of packages by the program, each function's walk. Same: classes, methods, packages. Same: packages, by the program. -/
import Derived.Test.YthagkijplklemaaGreatDoorRows
import Derived.Test.YthagkijplklemaaGreatDoorS01
import Derived.BigGuardPart
section
namespace Go.Proofs.YthagkijplklemaaGreatDoor
open Go.ChangeShapes Go.WideShapes Go.ChangeAt Go.RowKit Go.Sc
theorem bytesEqual_any (s t : Sl Int) (w : World) (hs : Hid (Bytes w s)) (ht : Hid (Bytes w t)) : Gives Tryz.prog 46 #[s.v, t.v] w (.bool (bEq s.xs t.xs)) := by
  obtain ⟨a, c, xs⟩ := s
  obtain ⟨a', c', ys⟩ := t
  have c1 := conv_bytes (P := Tryz.prog) (dst := 9) Tryz.underlying22 Tryz.underlying5 Tryz.underlying9 hs.out
  have c2 := conv_bytes (P := Tryz.prog) (dst := 9) Tryz.underlying22 Tryz.underlying5 Tryz.underlying9 ht.out
  show Gives _ _ #[.slice a xs.length c, .slice a' ys.length c'] _ _
  unfold Gives
  go_enter Tryz.func46, Tryz.ntmps46
  go_wp2_with fail
  go_ret
  exact ⟨ret_bool (bEq_str hs.out ht.out), END⟩
set_option maxRecDepth 20000 in
theorem eq_ints (s t : Sl Int) (w : World) (hs : Hid (s.Ok eInt 1 w)) (ht : Hid (t.Ok eInt 1 w)) :
    Gives Tryz.prog 82 #[s.v, t.v] w (.bool (eqF (fun x y => decide (x = y)) s.xs t.xs)) := by
  obtain ⟨a, c, xs⟩ := s
  obtain ⟨a', c', ys⟩ := t
  have hle := hs.out.le
  have hmx := hs.out.max
  have hle' := ht.out.le
  have hmx' := ht.out.max
  simp only at hle hmx hle' hmx'
  show Gives _ _ #[.slice a xs.length c, .slice a' ys.length c'] _ _
  unfold Gives
  by_cases hl : xs.length = ys.length
  · have hl' : ((xs.length : Int) != (ys.length : Int)) = false := by simp [hl]
    have HL := hid hl
    clear hl
    go_enter Tryz.func82, Tryz.ntmps82
    go_wp2_with fail
    go_loopw [13] (fun i wr => ∃ k : Nat, k ≤ xs.length ∧ i = .int .i64 k ∧ (∀ (j : Nat) (x y : Int), j < k → xs[j]? = some x → ys[j]? = some y → x = y) ∧ ∃ x : Ext w, wr = x.val) (fun i _ => xs.length - (intOf i).toNat)
    case atStart => exact ⟨0, Nat.zero_le _, rfl, fun _ _ _ h => absurd h (by omega), ⟨w, Below.refl _ _⟩, rfl⟩
    case round =>
      obtain ⟨k, hk, rfl, hz, x, rfl⟩ := hrel
      have HZ := hid hz
      clear hz
      by_cases hlt : k < xs.length
      · obtain ⟨y, hy⟩ := getElem?_of_lt hlt
        obtain ⟨hok, b, off, hba, hbl, hc⟩ := hs.out.at_ k y hy
        simp only at hba
        subst hba
        have h0 := hc 0 _ rfl; simp only [Nat.add_zero, Nat.mul_one] at h0
        haveI : InW b w := ⟨hbl⟩
        have hlt2 : k < ys.length := by have := HL.out; omega
        obtain ⟨z, hzz⟩ := getElem?_of_lt hlt2
        obtain ⟨hok', b', off', hba', hbl', hc'⟩ := ht.out.at_ k z hzz
        simp only at hba'
        subst hba'
        have g0 := hc' 0 _ rfl; simp only [Nat.add_zero, Nat.mul_one] at g0
        haveI : InW b' w := ⟨hbl'⟩
        have HY := hid hy
        have HZZ := hid hzz
        clear hc hok hy hbl hc' hok' hzz hbl'
        have hk1 : (0 : Int) ≤ (k : Int) := by omega
        have hk2 : (k : Int) < (xs.length : Int) := by omega
        have hk3 : (k : Int) < (ys.length : Int) := by omega
        by_cases hF : y = z
        · subst hF
          go_wp2_with fail
          refine wp_region_ext (by kernel_rfl) (by kernel_rfl) ?_; (repeat (go_big_quiet_step (fail))); refine wpQuiet_nil ?_; intro xw
          go_wp2_with fail
          go_roundw
          case rel => exact ⟨k + 1, by omega, by go_num, fun j u v hj hu hv => by
              rcases Nat.lt_succ_iff_lt_or_eq.1 hj with h | rfl
              · exact HZ.out j u v h hu hv
              · have h1 := HY.out.symm.trans hu; have h2 := HZZ.out.symm.trans hv; cases h1; cases h2; rfl, ⟨_, END⟩, rfl⟩
          case measure => simp [intOf]; omega
        · have HF := hid hF
          have hne : (y != z) = true := by simp [hF]
          all_goals
            clear hF
            go_wp2_with fail
            refine wp_region_ext (by kernel_rfl) (by kernel_rfl) ?_; (repeat (go_big_quiet_step (fail))); refine wpQuiet_nil ?_; intro xw
            go_wp2_with fail
            go_ret
            exact ⟨ret_bool (eqF_false HL.out HY.out HZZ.out (by simpa using HF.out)).symm, END⟩
      · go_wp2_with fail
        go_ret
        exact ⟨ret_bool (eqF_true HL.out fun j u v hu hv => by simpa using HZ.out j u v (by have := (List.getElem?_eq_some_iff.1 hu).1; omega) hu hv).symm, END⟩
  · have hl' : ((xs.length : Int) != (ys.length : Int)) = true := by simp; omega
    have HL := hid hl
    clear hl
    go_enter Tryz.func82, Tryz.ntmps82
    go_wp2_with fail
    go_ret
    exact ⟨ret_bool (eqF_len HL.out).symm, END⟩
set_option maxRecDepth 20000 in
theorem eq_tys (s t : Sl Ty) (w : World) (hs : Hid (s.Ok eTy 3 w)) (ht : Hid (t.Ok eTy 3 w)) :
    Gives Tryz.prog 53 #[s.v, t.v] w (.bool (eqF (fun x y => decide (x = y)) s.xs t.xs)) := by
  obtain ⟨a, c, xs⟩ := s
  obtain ⟨a', c', ys⟩ := t
  have hle := hs.out.le
  have hmx := hs.out.max
  have hle' := ht.out.le
  have hmx' := ht.out.max
  simp only at hle hmx hle' hmx'
  show Gives _ _ #[.slice a xs.length c, .slice a' ys.length c'] _ _
  unfold Gives
  by_cases hl : xs.length = ys.length
  · have hl' : ((xs.length : Int) != (ys.length : Int)) = false := by simp [hl]
    have HL := hid hl
    clear hl
    go_enter Tryz.func53, Tryz.ntmps53
    go_wp2_with fail
    go_loopw [13] (fun i wr => ∃ k : Nat, k ≤ xs.length ∧ i = .int .i64 k ∧ (∀ (j : Nat) (x y : Ty), j < k → xs[j]? = some x → ys[j]? = some y → x = y) ∧ ∃ x : Ext w, wr = x.val) (fun i _ => xs.length - (intOf i).toNat)
    case atStart => exact ⟨0, Nat.zero_le _, rfl, fun _ _ _ h => absurd h (by omega), ⟨w, Below.refl _ _⟩, rfl⟩
    case round =>
      obtain ⟨k, hk, rfl, hz, x, rfl⟩ := hrel
      have HZ := hid hz
      clear hz
      by_cases hlt : k < xs.length
      · obtain ⟨y, hy⟩ := getElem?_of_lt hlt
        obtain ⟨hok, b, off, hba, hbl, hc⟩ := hs.out.at_ k y hy
        simp only at hba
        subst hba
        have h0 := hc 0 _ rfl; have h1 := hc 1 _ rfl; have h2 := hc 2 _ rfl; simp only [Nat.add_zero] at h0
        haveI : InW b w := ⟨hbl⟩
        have hlt2 : k < ys.length := by have := HL.out; omega
        obtain ⟨z, hzz⟩ := getElem?_of_lt hlt2
        obtain ⟨hok', b', off', hba', hbl', hc'⟩ := ht.out.at_ k z hzz
        simp only at hba'
        subst hba'
        have g0 := hc' 0 _ rfl; have g1 := hc' 1 _ rfl; have g2 := hc' 2 _ rfl; simp only [Nat.add_zero] at g0
        haveI : InW b' w := ⟨hbl'⟩
        have HY := hid hy
        have HZZ := hid hzz
        clear hc hok hy hbl hc' hok' hzz hbl'
        have hk1 : (0 : Int) ≤ (k : Int) := by omega
        have hk2 : (k : Int) < (xs.length : Int) := by omega
        have hk3 : (k : Int) < (ys.length : Int) := by omega
        by_cases hF : y = z
        · subst hF
          go_wp2_with fail
          refine wp_region_ext (by kernel_rfl) (by kernel_rfl) ?_; (repeat (go_big_quiet_step (fail))); refine wpQuiet_nil ?_; intro xw
          go_wp2_with fail
          go_roundw
          case rel => exact ⟨k + 1, by omega, by go_num, fun j u v hj hu hv => by
              rcases Nat.lt_succ_iff_lt_or_eq.1 hj with h | rfl
              · exact HZ.out j u v h hu hv
              · have h1 := HY.out.symm.trans hu; have h2 := HZZ.out.symm.trans hv; cases h1; cases h2; rfl, ⟨_, END⟩, rfl⟩
          case measure => simp [intOf]; omega
        · have HF := hid hF
          rcases neTy hF with e | ⟨e0, e⟩ | ⟨e0, e1, e⟩
          all_goals
            clear hF
            go_wp2_with fail
            refine wp_region_ext (by kernel_rfl) (by kernel_rfl) ?_; (repeat (go_big_quiet_step (fail))); refine wpQuiet_nil ?_; intro xw
            go_wp2_with fail
            go_ret
            exact ⟨ret_bool (eqF_false HL.out HY.out HZZ.out (by simpa using HF.out)).symm, END⟩
      · go_wp2_with fail
        go_ret
        exact ⟨ret_bool (eqF_true HL.out fun j u v hu hv => by simpa using HZ.out j u v (by have := (List.getElem?_eq_some_iff.1 hu).1; omega) hu hv).symm, END⟩
  · have hl' : ((xs.length : Int) != (ys.length : Int)) = true := by simp; omega
    have HL := hid hl
    clear hl
    go_enter Tryz.func53, Tryz.ntmps53
    go_wp2_with fail
    go_ret
    exact ⟨ret_bool (eqF_len HL.out).symm, END⟩
set_option maxRecDepth 20000 in
theorem eq_refs (s t : Sl Rf) (w : World) (hs : Hid (s.Ok eRf 2 w)) (ht : Hid (t.Ok eRf 2 w)) :
    Gives Tryz.prog 81 #[s.v, t.v] w (.bool (eqF (fun x y => decide (x = y)) s.xs t.xs)) := by
  obtain ⟨a, c, xs⟩ := s
  obtain ⟨a', c', ys⟩ := t
  have hle := hs.out.le
  have hmx := hs.out.max
  have hle' := ht.out.le
  have hmx' := ht.out.max
  simp only at hle hmx hle' hmx'
  show Gives _ _ #[.slice a xs.length c, .slice a' ys.length c'] _ _
  unfold Gives
  by_cases hl : xs.length = ys.length
  · have hl' : ((xs.length : Int) != (ys.length : Int)) = false := by simp [hl]
    have HL := hid hl
    clear hl
    go_enter Tryz.func81, Tryz.ntmps81
    go_wp2_with fail
    go_loopw [13] (fun i wr => ∃ k : Nat, k ≤ xs.length ∧ i = .int .i64 k ∧ (∀ (j : Nat) (x y : Rf), j < k → xs[j]? = some x → ys[j]? = some y → x = y) ∧ ∃ x : Ext w, wr = x.val) (fun i _ => xs.length - (intOf i).toNat)
    case atStart => exact ⟨0, Nat.zero_le _, rfl, fun _ _ _ h => absurd h (by omega), ⟨w, Below.refl _ _⟩, rfl⟩
    case round =>
      obtain ⟨k, hk, rfl, hz, x, rfl⟩ := hrel
      have HZ := hid hz
      clear hz
      by_cases hlt : k < xs.length
      · obtain ⟨y, hy⟩ := getElem?_of_lt hlt
        obtain ⟨hok, b, off, hba, hbl, hc⟩ := hs.out.at_ k y hy
        simp only at hba
        subst hba
        have h0 := hc 0 _ rfl; have h1 := hc 1 _ rfl; simp only [Nat.add_zero] at h0
        haveI : InW b w := ⟨hbl⟩
        have hlt2 : k < ys.length := by have := HL.out; omega
        obtain ⟨z, hzz⟩ := getElem?_of_lt hlt2
        obtain ⟨hok', b', off', hba', hbl', hc'⟩ := ht.out.at_ k z hzz
        simp only at hba'
        subst hba'
        have g0 := hc' 0 _ rfl; have g1 := hc' 1 _ rfl; simp only [Nat.add_zero] at g0
        haveI : InW b' w := ⟨hbl'⟩
        have HY := hid hy
        have HZZ := hid hzz
        clear hc hok hy hbl hc' hok' hzz hbl'
        have hk1 : (0 : Int) ≤ (k : Int) := by omega
        have hk2 : (k : Int) < (xs.length : Int) := by omega
        have hk3 : (k : Int) < (ys.length : Int) := by omega
        by_cases hF : y = z
        · subst hF
          go_wp2_with fail
          refine wp_region_ext (by kernel_rfl) (by kernel_rfl) ?_; (repeat (go_big_quiet_step (fail))); refine wpQuiet_nil ?_; intro xw
          go_wp2_with fail
          go_roundw
          case rel => exact ⟨k + 1, by omega, by go_num, fun j u v hj hu hv => by
              rcases Nat.lt_succ_iff_lt_or_eq.1 hj with h | rfl
              · exact HZ.out j u v h hu hv
              · have h1 := HY.out.symm.trans hu; have h2 := HZZ.out.symm.trans hv; cases h1; cases h2; rfl, ⟨_, END⟩, rfl⟩
          case measure => simp [intOf]; omega
        · have HF := hid hF
          rcases neRf hF with e | ⟨e0, e⟩
          all_goals
            clear hF
            go_wp2_with fail
            refine wp_region_ext (by kernel_rfl) (by kernel_rfl) ?_; (repeat (go_big_quiet_step (fail))); refine wpQuiet_nil ?_; intro xw
            go_wp2_with fail
            go_ret
            exact ⟨ret_bool (eqF_false HL.out HY.out HZZ.out (by simpa using HF.out)).symm, END⟩
      · go_wp2_with fail
        go_ret
        exact ⟨ret_bool (eqF_true HL.out fun j u v hu hv => by simpa using HZ.out j u v (by have := (List.getElem?_eq_some_iff.1 hu).1; omega) hu hv).symm, END⟩
  · have hl' : ((xs.length : Int) != (ys.length : Int)) = true := by simp; omega
    have HL := hid hl
    clear hl
    go_enter Tryz.func81, Tryz.ntmps81
    go_wp2_with fail
    go_ret
    exact ⟨ret_bool (eqF_len HL.out).symm, END⟩
set_option maxRecDepth 20000 in
theorem eq_ins (s t : Sl In) (w : World) (hs : Hid (s.Ok eIn 4 w)) (ht : Hid (t.Ok eIn 4 w)) :
    Gives Tryz.prog 85 #[s.v, t.v] w (.bool (eqF (fun x y => decide (x = y)) s.xs t.xs)) := by
  obtain ⟨a, c, xs⟩ := s
  obtain ⟨a', c', ys⟩ := t
  have hle := hs.out.le
  have hmx := hs.out.max
  have hle' := ht.out.le
  have hmx' := ht.out.max
  simp only at hle hmx hle' hmx'
  show Gives _ _ #[.slice a xs.length c, .slice a' ys.length c'] _ _
  unfold Gives
  by_cases hl : xs.length = ys.length
  · have hl' : ((xs.length : Int) != (ys.length : Int)) = false := by simp [hl]
    have HL := hid hl
    clear hl
    go_enter Tryz.func85, Tryz.ntmps85
    go_wp2_with fail
    go_loopw [13] (fun i wr => ∃ k : Nat, k ≤ xs.length ∧ i = .int .i64 k ∧ (∀ (j : Nat) (x y : In), j < k → xs[j]? = some x → ys[j]? = some y → x = y) ∧ ∃ x : Ext w, wr = x.val) (fun i _ => xs.length - (intOf i).toNat)
    case atStart => exact ⟨0, Nat.zero_le _, rfl, fun _ _ _ h => absurd h (by omega), ⟨w, Below.refl _ _⟩, rfl⟩
    case round =>
      obtain ⟨k, hk, rfl, hz, x, rfl⟩ := hrel
      have HZ := hid hz
      clear hz
      by_cases hlt : k < xs.length
      · obtain ⟨y, hy⟩ := getElem?_of_lt hlt
        obtain ⟨hok, b, off, hba, hbl, hc⟩ := hs.out.at_ k y hy
        simp only at hba
        subst hba
        have h0 := hc 0 _ rfl; have h1 := hc 1 _ rfl; have h2 := hc 2 _ rfl; have h3 := hc 3 _ rfl; simp only [Nat.add_zero] at h0
        haveI : InW b w := ⟨hbl⟩
        have hlt2 : k < ys.length := by have := HL.out; omega
        obtain ⟨z, hzz⟩ := getElem?_of_lt hlt2
        obtain ⟨hok', b', off', hba', hbl', hc'⟩ := ht.out.at_ k z hzz
        simp only at hba'
        subst hba'
        have g0 := hc' 0 _ rfl; have g1 := hc' 1 _ rfl; have g2 := hc' 2 _ rfl; have g3 := hc' 3 _ rfl; simp only [Nat.add_zero] at g0
        haveI : InW b' w := ⟨hbl'⟩
        have HY := hid hy
        have HZZ := hid hzz
        clear hc hok hy hbl hc' hok' hzz hbl'
        have hk1 : (0 : Int) ≤ (k : Int) := by omega
        have hk2 : (k : Int) < (xs.length : Int) := by omega
        have hk3 : (k : Int) < (ys.length : Int) := by omega
        by_cases hF : y = z
        · subst hF
          go_wp2_with fail
          refine wp_region_ext (by kernel_rfl) (by kernel_rfl) ?_; (repeat (go_big_quiet_step (fail))); refine wpQuiet_nil ?_; intro xw
          go_wp2_with fail
          go_roundw
          case rel => exact ⟨k + 1, by omega, by go_num, fun j u v hj hu hv => by
              rcases Nat.lt_succ_iff_lt_or_eq.1 hj with h | rfl
              · exact HZ.out j u v h hu hv
              · have h1 := HY.out.symm.trans hu; have h2 := HZZ.out.symm.trans hv; cases h1; cases h2; rfl, ⟨_, END⟩, rfl⟩
          case measure => simp [intOf]; omega
        · have HF := hid hF
          rcases neIn hF with e | ⟨e0, e⟩ | ⟨e0, e1, e⟩ | ⟨e0, e1, e2, e⟩
          all_goals
            clear hF
            go_wp2_with fail
            refine wp_region_ext (by kernel_rfl) (by kernel_rfl) ?_; (repeat (go_big_quiet_step (fail))); refine wpQuiet_nil ?_; intro xw
            go_wp2_with fail
            go_ret
            exact ⟨ret_bool (eqF_false HL.out HY.out HZZ.out (by simpa using HF.out)).symm, END⟩
      · go_wp2_with fail
        go_ret
        exact ⟨ret_bool (eqF_true HL.out fun j u v hu hv => by simpa using HZ.out j u v (by have := (List.getElem?_eq_some_iff.1 hu).1; omega) hu hv).symm, END⟩
  · have hl' : ((xs.length : Int) != (ys.length : Int)) = true := by simp; omega
    have HL := hid hl
    clear hl
    go_enter Tryz.func85, Tryz.ntmps85
    go_wp2_with fail
    go_ret
    exact ⟨ret_bool (eqF_len HL.out).symm, END⟩
set_option maxRecDepth 20000 in
theorem eq_hds (s t : Sl Hd) (w : World) (hs : Hid (s.Ok eHd 4 w)) (ht : Hid (t.Ok eHd 4 w)) :
    Gives Tryz.prog 86 #[s.v, t.v] w (.bool (eqF (fun x y => decide (x = y)) s.xs t.xs)) := by
  obtain ⟨a, c, xs⟩ := s
  obtain ⟨a', c', ys⟩ := t
  have hle := hs.out.le
  have hmx := hs.out.max
  have hle' := ht.out.le
  have hmx' := ht.out.max
  simp only at hle hmx hle' hmx'
  show Gives _ _ #[.slice a xs.length c, .slice a' ys.length c'] _ _
  unfold Gives
  by_cases hl : xs.length = ys.length
  · have hl' : ((xs.length : Int) != (ys.length : Int)) = false := by simp [hl]
    have HL := hid hl
    clear hl
    go_enter Tryz.func86, Tryz.ntmps86
    go_wp2_with fail
    go_loopw [13] (fun i wr => ∃ k : Nat, k ≤ xs.length ∧ i = .int .i64 k ∧ (∀ (j : Nat) (x y : Hd), j < k → xs[j]? = some x → ys[j]? = some y → x = y) ∧ ∃ x : Ext w, wr = x.val) (fun i _ => xs.length - (intOf i).toNat)
    case atStart => exact ⟨0, Nat.zero_le _, rfl, fun _ _ _ h => absurd h (by omega), ⟨w, Below.refl _ _⟩, rfl⟩
    case round =>
      obtain ⟨k, hk, rfl, hz, x, rfl⟩ := hrel
      have HZ := hid hz
      clear hz
      by_cases hlt : k < xs.length
      · obtain ⟨y, hy⟩ := getElem?_of_lt hlt
        obtain ⟨hok, b, off, hba, hbl, hc⟩ := hs.out.at_ k y hy
        simp only at hba
        subst hba
        have h0 := hc 0 _ rfl; have h1 := hc 1 _ rfl; have h2 := hc 2 _ rfl; have h3 := hc 3 _ rfl; simp only [Nat.add_zero] at h0
        haveI : InW b w := ⟨hbl⟩
        have hlt2 : k < ys.length := by have := HL.out; omega
        obtain ⟨z, hzz⟩ := getElem?_of_lt hlt2
        obtain ⟨hok', b', off', hba', hbl', hc'⟩ := ht.out.at_ k z hzz
        simp only at hba'
        subst hba'
        have g0 := hc' 0 _ rfl; have g1 := hc' 1 _ rfl; have g2 := hc' 2 _ rfl; have g3 := hc' 3 _ rfl; simp only [Nat.add_zero] at g0
        haveI : InW b' w := ⟨hbl'⟩
        have HY := hid hy
        have HZZ := hid hzz
        clear hc hok hy hbl hc' hok' hzz hbl'
        have hk1 : (0 : Int) ≤ (k : Int) := by omega
        have hk2 : (k : Int) < (xs.length : Int) := by omega
        have hk3 : (k : Int) < (ys.length : Int) := by omega
        by_cases hF : y = z
        · subst hF
          go_wp2_with fail
          refine wp_region_ext (by kernel_rfl) (by kernel_rfl) ?_; (repeat (go_big_quiet_step (fail))); refine wpQuiet_nil ?_; intro xw
          go_wp2_with fail
          go_roundw
          case rel => exact ⟨k + 1, by omega, by go_num, fun j u v hj hu hv => by
              rcases Nat.lt_succ_iff_lt_or_eq.1 hj with h | rfl
              · exact HZ.out j u v h hu hv
              · have h1 := HY.out.symm.trans hu; have h2 := HZZ.out.symm.trans hv; cases h1; cases h2; rfl, ⟨_, END⟩, rfl⟩
          case measure => simp [intOf]; omega
        · have HF := hid hF
          rcases neHd hF with e | ⟨e0, e⟩ | ⟨e0, e1, e⟩ | ⟨e0, e1, e2, e⟩
          all_goals
            clear hF
            go_wp2_with fail
            refine wp_region_ext (by kernel_rfl) (by kernel_rfl) ?_; (repeat (go_big_quiet_step (fail))); refine wpQuiet_nil ?_; intro xw
            go_wp2_with fail
            go_ret
            exact ⟨ret_bool (eqF_false HL.out HY.out HZZ.out (by simpa using HF.out)).symm, END⟩
      · go_wp2_with fail
        go_ret
        exact ⟨ret_bool (eqF_true HL.out fun j u v hu hv => by simpa using HZ.out j u v (by have := (List.getElem?_eq_some_iff.1 hu).1; omega) hu hv).symm, END⟩
  · have hl' : ((xs.length : Int) != (ys.length : Int)) = true := by simp; omega
    have HL := hid hl
    clear hl
    go_enter Tryz.func86, Tryz.ntmps86
    go_wp2_with fail
    go_ret
    exact ⟨ret_bool (eqF_len HL.out).symm, END⟩

theorem sameImp_any (x y : Ip) (w : World) (hx : Hid (x.Ok w)) (hy : Hid (y.Ok w)) : Gives Tryz.prog 45 #[x.v, y.v] w (.bool (ipEq x y)) := by
  unfold Gives
  go_enter Tryz.func45, Tryz.ntmps45
  go_wp2_with ((go_at_call 46; refine (bytesEqual_any x.aid y.aid _ (hx.out.1.mono END) (hy.out.1.mono END)).go.mono ?_; rintro e w' ⟨rfl, xw, rfl⟩))
  all_goals
    go_ret
    exact ⟨ret_bool (by unfold ipEq; grind), END⟩
theorem sameApp_any (x y : Ap) (w : World) (hx : Hid (x.Ok w)) (hy : Hid (y.Ok w)) : Gives Tryz.prog 48 #[x.v, y.v] w (.bool (apEq x y)) := by
  unfold Gives
  go_enter Tryz.func48, Tryz.ntmps48
  go_wp2_with ((go_at_call 46; refine (bytesEqual_any x.aid y.aid _ (hx.out.1.mono END) (hy.out.1.mono END)).go.mono ?_; rintro e w' ⟨rfl, xw, rfl⟩))
  all_goals
    go_ret
    exact ⟨ret_bool (by unfold apEq; grind), END⟩
theorem sameImpl_any (x y : Im) (w : World) (hx : Hid (x.Ok w)) (hy : Hid (y.Ok w)) : Gives Tryz.prog 84 #[x.v, y.v] w (.bool (imEq x y)) := by
  unfold Gives
  go_enter Tryz.func84, Tryz.ntmps84
  go_wp2_with ((go_at_call 82; refine (eq_ints x.ms y.ms _ (hx.out.2.2.mono END) (hy.out.2.2.mono END)).go.mono ?_; rintro e w' ⟨rfl, xw, rfl⟩))
  all_goals
    go_ret
    exact ⟨ret_bool (by unfold imEq rfEq; grind), END⟩
set_option maxRecDepth 20000 in
theorem eqf_imp (s t : Sl Ip) (F : Ip → Ip → Bool) (w : World) (hs : Hid (s.Ok eIp 3 w)) (ht : Hid (t.Ok eIp 3 w))
    (hf : Hid (∀ (k : Nat) (x y : Ip) (W : World), Below w.heap.size w W → s.xs[k]? = some x → t.xs[k]? = some y → Gives Tryz.prog 45 #[x.v, y.v] W (.bool (F x y)))) :
    Gives Tryz.prog 44 #[s.v, t.v, .func (.func 45) #[] #[]] w (.bool (eqF F s.xs t.xs)) := by
  obtain ⟨a, c, xs⟩ := s
  obtain ⟨a', c', ys⟩ := t
  have hle := hs.out.le
  have hmx := hs.out.max
  have hle' := ht.out.le
  have hmx' := ht.out.max
  simp only at hle hmx hle' hmx'
  show Gives _ _ #[.slice a xs.length c, .slice a' ys.length c', .func (.func 45) _ _] _ _
  unfold Gives
  by_cases hl : xs.length = ys.length
  · have hl' : ((xs.length : Int) != (ys.length : Int)) = false := by simp [hl]
    have HL := hid hl
    clear hl
    go_enter Tryz.func44, Tryz.ntmps44
    go_wp2_with fail
    go_loopw [17] (fun i wr => ∃ k : Nat, k ≤ xs.length ∧ i = .int .i64 k ∧ (∀ (j : Nat) (x y : Ip), j < k → xs[j]? = some x → ys[j]? = some y → F x y = true) ∧ ∃ x : Ext w, wr = x.val) (fun i _ => xs.length - (intOf i).toNat)
    case atStart => exact ⟨0, Nat.zero_le _, rfl, fun _ _ _ h => absurd h (by omega), ⟨w, Below.refl _ _⟩, rfl⟩
    case round =>
      obtain ⟨k, hk, rfl, hz, x, rfl⟩ := hrel
      have HZ := hid hz
      clear hz
      by_cases hlt : k < xs.length
      · obtain ⟨y, hy⟩ := getElem?_of_lt hlt
        obtain ⟨hok, b, off, hba, hbl, hc⟩ := hs.out.at_ k y hy
        simp only at hba
        subst hba
        have h0 := hc 0 _ rfl; have h1 := hc 1 _ rfl; have h2 := hc 2 _ rfl; simp only [Nat.add_zero] at h0
        haveI : InW b w := ⟨hbl⟩
        have hlt2 : k < ys.length := by have := HL.out; omega
        obtain ⟨z, hzz⟩ := getElem?_of_lt hlt2
        obtain ⟨hok', b', off', hba', hbl', hc'⟩ := ht.out.at_ k z hzz
        simp only at hba'
        subst hba'
        have g0 := hc' 0 _ rfl; have g1 := hc' 1 _ rfl; have g2 := hc' 2 _ rfl; simp only [Nat.add_zero] at g0
        haveI : InW b' w := ⟨hbl'⟩
        have HY := hid hy
        have HZZ := hid hzz
        clear hc hok hy hbl hc' hok' hzz hbl'
        have hk1 : (0 : Int) ≤ (k : Int) := by omega
        have hk2 : (k : Int) < (xs.length : Int) := by omega
        have hk3 : (k : Int) < (ys.length : Int) := by omega
        by_cases hF : F y z = true
        · have HF := hid hF
          go_wp2_with (go_at_call 45; refine (hf.out k y z _ END HY.out HZZ.out).go.mono ?_; rintro e w' ⟨rfl, x, rfl⟩)
          go_roundw
          case rel => exact ⟨k + 1, by omega, by go_num, fun j u v hj hu hv => by
              rcases Nat.lt_succ_iff_lt_or_eq.1 hj with h | rfl
              · exact HZ.out j u v h hu hv
              · have h1 := HY.out.symm.trans hu; have h2 := HZZ.out.symm.trans hv; cases h1; cases h2; exact HF.out, ⟨_, END⟩, rfl⟩
          case measure => simp [intOf]; omega
        · simp only [Bool.not_eq_true] at hF
          have HF := hid hF
          go_wp2_with (go_at_call 45; refine (hf.out k y z _ END HY.out HZZ.out).go.mono ?_; rintro e w' ⟨rfl, x, rfl⟩)
          go_ret
          exact ⟨ret_bool (eqF_false HL.out HY.out HZZ.out HF.out).symm, END⟩
      · go_wp2_with fail
        go_ret
        exact ⟨ret_bool (eqF_true HL.out fun j u v hu hv => HZ.out j u v (by have := (List.getElem?_eq_some_iff.1 hu).1; omega) hu hv).symm, END⟩
  · have hl' : ((xs.length : Int) != (ys.length : Int)) = true := by simp; omega
    have HL := hid hl
    clear hl
    go_enter Tryz.func44, Tryz.ntmps44
    go_wp2_with fail
    go_ret
    exact ⟨ret_bool (eqF_len HL.out).symm, END⟩
set_option maxRecDepth 20000 in
theorem eqf_app (s t : Sl Ap) (F : Ap → Ap → Bool) (w : World) (hs : Hid (s.Ok eAp 3 w)) (ht : Hid (t.Ok eAp 3 w))
    (hf : Hid (∀ (k : Nat) (x y : Ap) (W : World), Below w.heap.size w W → s.xs[k]? = some x → t.xs[k]? = some y → Gives Tryz.prog 48 #[x.v, y.v] W (.bool (F x y)))) :
    Gives Tryz.prog 47 #[s.v, t.v, .func (.func 48) #[] #[]] w (.bool (eqF F s.xs t.xs)) := by
  obtain ⟨a, c, xs⟩ := s
  obtain ⟨a', c', ys⟩ := t
  have hle := hs.out.le
  have hmx := hs.out.max
  have hle' := ht.out.le
  have hmx' := ht.out.max
  simp only at hle hmx hle' hmx'
  show Gives _ _ #[.slice a xs.length c, .slice a' ys.length c', .func (.func 48) _ _] _ _
  unfold Gives
  by_cases hl : xs.length = ys.length
  · have hl' : ((xs.length : Int) != (ys.length : Int)) = false := by simp [hl]
    have HL := hid hl
    clear hl
    go_enter Tryz.func47, Tryz.ntmps47
    go_wp2_with fail
    go_loopw [17] (fun i wr => ∃ k : Nat, k ≤ xs.length ∧ i = .int .i64 k ∧ (∀ (j : Nat) (x y : Ap), j < k → xs[j]? = some x → ys[j]? = some y → F x y = true) ∧ ∃ x : Ext w, wr = x.val) (fun i _ => xs.length - (intOf i).toNat)
    case atStart => exact ⟨0, Nat.zero_le _, rfl, fun _ _ _ h => absurd h (by omega), ⟨w, Below.refl _ _⟩, rfl⟩
    case round =>
      obtain ⟨k, hk, rfl, hz, x, rfl⟩ := hrel
      have HZ := hid hz
      clear hz
      by_cases hlt : k < xs.length
      · obtain ⟨y, hy⟩ := getElem?_of_lt hlt
        obtain ⟨hok, b, off, hba, hbl, hc⟩ := hs.out.at_ k y hy
        simp only at hba
        subst hba
        have h0 := hc 0 _ rfl; have h1 := hc 1 _ rfl; have h2 := hc 2 _ rfl; simp only [Nat.add_zero] at h0
        haveI : InW b w := ⟨hbl⟩
        have hlt2 : k < ys.length := by have := HL.out; omega
        obtain ⟨z, hzz⟩ := getElem?_of_lt hlt2
        obtain ⟨hok', b', off', hba', hbl', hc'⟩ := ht.out.at_ k z hzz
        simp only at hba'
        subst hba'
        have g0 := hc' 0 _ rfl; have g1 := hc' 1 _ rfl; have g2 := hc' 2 _ rfl; simp only [Nat.add_zero] at g0
        haveI : InW b' w := ⟨hbl'⟩
        have HY := hid hy
        have HZZ := hid hzz
        clear hc hok hy hbl hc' hok' hzz hbl'
        have hk1 : (0 : Int) ≤ (k : Int) := by omega
        have hk2 : (k : Int) < (xs.length : Int) := by omega
        have hk3 : (k : Int) < (ys.length : Int) := by omega
        by_cases hF : F y z = true
        · have HF := hid hF
          go_wp2_with (go_at_call 48; refine (hf.out k y z _ END HY.out HZZ.out).go.mono ?_; rintro e w' ⟨rfl, x, rfl⟩)
          go_roundw
          case rel => exact ⟨k + 1, by omega, by go_num, fun j u v hj hu hv => by
              rcases Nat.lt_succ_iff_lt_or_eq.1 hj with h | rfl
              · exact HZ.out j u v h hu hv
              · have h1 := HY.out.symm.trans hu; have h2 := HZZ.out.symm.trans hv; cases h1; cases h2; exact HF.out, ⟨_, END⟩, rfl⟩
          case measure => simp [intOf]; omega
        · simp only [Bool.not_eq_true] at hF
          have HF := hid hF
          go_wp2_with (go_at_call 48; refine (hf.out k y z _ END HY.out HZZ.out).go.mono ?_; rintro e w' ⟨rfl, x, rfl⟩)
          go_ret
          exact ⟨ret_bool (eqF_false HL.out HY.out HZZ.out HF.out).symm, END⟩
      · go_wp2_with fail
        go_ret
        exact ⟨ret_bool (eqF_true HL.out fun j u v hu hv => HZ.out j u v (by have := (List.getElem?_eq_some_iff.1 hu).1; omega) hu hv).symm, END⟩
  · have hl' : ((xs.length : Int) != (ys.length : Int)) = true := by simp; omega
    have HL := hid hl
    clear hl
    go_enter Tryz.func47, Tryz.ntmps47
    go_wp2_with fail
    go_ret
    exact ⟨ret_bool (eqF_len HL.out).symm, END⟩
set_option maxRecDepth 20000 in
theorem eqf_impl (s t : Sl Im) (F : Im → Im → Bool) (w : World) (hs : Hid (s.Ok eIm 3 w)) (ht : Hid (t.Ok eIm 3 w))
    (hf : Hid (∀ (k : Nat) (x y : Im) (W : World), Below w.heap.size w W → s.xs[k]? = some x → t.xs[k]? = some y → Gives Tryz.prog 84 #[x.v, y.v] W (.bool (F x y)))) :
    Gives Tryz.prog 83 #[s.v, t.v, .func (.func 84) #[] #[]] w (.bool (eqF F s.xs t.xs)) := by
  obtain ⟨a, c, xs⟩ := s
  obtain ⟨a', c', ys⟩ := t
  have hle := hs.out.le
  have hmx := hs.out.max
  have hle' := ht.out.le
  have hmx' := ht.out.max
  simp only at hle hmx hle' hmx'
  show Gives _ _ #[.slice a xs.length c, .slice a' ys.length c', .func (.func 84) _ _] _ _
  unfold Gives
  by_cases hl : xs.length = ys.length
  · have hl' : ((xs.length : Int) != (ys.length : Int)) = false := by simp [hl]
    have HL := hid hl
    clear hl
    go_enter Tryz.func83, Tryz.ntmps83
    go_wp2_with fail
    go_loopw [17] (fun i wr => ∃ k : Nat, k ≤ xs.length ∧ i = .int .i64 k ∧ (∀ (j : Nat) (x y : Im), j < k → xs[j]? = some x → ys[j]? = some y → F x y = true) ∧ ∃ x : Ext w, wr = x.val) (fun i _ => xs.length - (intOf i).toNat)
    case atStart => exact ⟨0, Nat.zero_le _, rfl, fun _ _ _ h => absurd h (by omega), ⟨w, Below.refl _ _⟩, rfl⟩
    case round =>
      obtain ⟨k, hk, rfl, hz, x, rfl⟩ := hrel
      have HZ := hid hz
      clear hz
      by_cases hlt : k < xs.length
      · obtain ⟨y, hy⟩ := getElem?_of_lt hlt
        obtain ⟨hok, b, off, hba, hbl, hc⟩ := hs.out.at_ k y hy
        simp only at hba
        subst hba
        have h0 := hc 0 _ rfl; have h1 := hc 1 _ rfl; have h2 := hc 2 _ rfl; simp only [Nat.add_zero] at h0
        haveI : InW b w := ⟨hbl⟩
        have hlt2 : k < ys.length := by have := HL.out; omega
        obtain ⟨z, hzz⟩ := getElem?_of_lt hlt2
        obtain ⟨hok', b', off', hba', hbl', hc'⟩ := ht.out.at_ k z hzz
        simp only at hba'
        subst hba'
        have g0 := hc' 0 _ rfl; have g1 := hc' 1 _ rfl; have g2 := hc' 2 _ rfl; simp only [Nat.add_zero] at g0
        haveI : InW b' w := ⟨hbl'⟩
        have HY := hid hy
        have HZZ := hid hzz
        clear hc hok hy hbl hc' hok' hzz hbl'
        have hk1 : (0 : Int) ≤ (k : Int) := by omega
        have hk2 : (k : Int) < (xs.length : Int) := by omega
        have hk3 : (k : Int) < (ys.length : Int) := by omega
        by_cases hF : F y z = true
        · have HF := hid hF
          go_wp2_with (go_at_call 84; refine (hf.out k y z _ END HY.out HZZ.out).go.mono ?_; rintro e w' ⟨rfl, x, rfl⟩)
          go_roundw
          case rel => exact ⟨k + 1, by omega, by go_num, fun j u v hj hu hv => by
              rcases Nat.lt_succ_iff_lt_or_eq.1 hj with h | rfl
              · exact HZ.out j u v h hu hv
              · have h1 := HY.out.symm.trans hu; have h2 := HZZ.out.symm.trans hv; cases h1; cases h2; exact HF.out, ⟨_, END⟩, rfl⟩
          case measure => simp [intOf]; omega
        · simp only [Bool.not_eq_true] at hF
          have HF := hid hF
          go_wp2_with (go_at_call 84; refine (hf.out k y z _ END HY.out HZZ.out).go.mono ?_; rintro e w' ⟨rfl, x, rfl⟩)
          go_ret
          exact ⟨ret_bool (eqF_false HL.out HY.out HZZ.out HF.out).symm, END⟩
      · go_wp2_with fail
        go_ret
        exact ⟨ret_bool (eqF_true HL.out fun j u v hu hv => HZ.out j u v (by have := (List.getElem?_eq_some_iff.1 hu).1; omega) hu hv).symm, END⟩
  · have hl' : ((xs.length : Int) != (ys.length : Int)) = true := by simp; omega
    have HL := hid hl
    clear hl
    go_enter Tryz.func83, Tryz.ntmps83
    go_wp2_with fail
    go_ret
    exact ⟨ret_bool (eqF_len HL.out).symm, END⟩
end Go.Proofs.YthagkijplklemaaGreatDoor
end

section
namespace Go.Proofs.YthagkijplklemaaGreatDoor
open Go.ChangeShapes Go.WideShapes Go.ChangeAt Go.RowKit Go.Sc
theorem impl_hf {w : World} {s t : Sl Im} (hs : s.Ok eIm 3 w) (ht : t.Ok eIm 3 w) :
    Hid (∀ (k : Nat) (x y : Im) (W : World), Below w.heap.size w W → s.xs[k]? = some x → t.xs[k]? = some y → Gives Tryz.prog 84 #[x.v, y.v] W (.bool (imEq x y))) :=
  fun k x y W hb hx hy => sameImpl_any x y W ((hs.mono hb).at_ k x hx).1 ((ht.mono hb).at_ k y hy).1
theorem sameClass_any (x y : Cl) (w : World) (hx : Hid (x.Ok w)) (hy : Hid (y.Ok w)) : Gives Tryz.prog 50 #[x.v, y.v] w (.bool (clEq x y)) := by
  unfold Gives
  go_enter Tryz.func50, Tryz.ntmps50
  go_wp2_with (first | (go_at_call 81; refine (eq_refs x.ext y.ext _ (hx.out.ext.mono END) (hy.out.ext.mono END)).go.mono ?_; rintro e w' ⟨rfl, xw, rfl⟩) | (go_at_call 53; refine (eq_tys x.fields y.fields _ (hx.out.fields.mono END) (hy.out.fields.mono END)).go.mono ?_; rintro e w' ⟨rfl, xw, rfl⟩) | (go_at_call 82; refine (eq_ints x.virt y.virt _ (hx.out.virt.mono END) (hy.out.virt.mono END)).go.mono ?_; rintro e w' ⟨rfl, xw, rfl⟩) | (go_at_call 83; refine (eqf_impl x.impls y.impls imEq _ (hx.out.impls.mono END) (hy.out.impls.mono END) (impl_hf (hx.out.impls.mono END) (hy.out.impls.mono END))).go.mono ?_; rintro e w' ⟨rfl, xw, rfl⟩))
  all_goals
    go_ret
    exact ⟨ret_bool (by unfold clEq rfEq; grind), END⟩
theorem sameMethod_any (x y : Me) (w : World) (hx : Hid (x.Ok w)) (hy : Hid (y.Ok w)) : Gives Tryz.prog 52 #[x.v, y.v] w (.bool (meEq x y)) := by
  unfold Gives
  go_enter Tryz.func52, Tryz.ntmps52
  go_wp2_with (first | (go_at_call 53; refine (eq_tys x.params y.params _ (hx.out.params.mono END) (hy.out.params.mono END)).go.mono ?_; rintro e w' ⟨rfl, xw, rfl⟩) | (go_at_call 85; refine (eq_ins x.code y.code _ (hx.out.code.mono END) (hy.out.code.mono END)).go.mono ?_; rintro e w' ⟨rfl, xw, rfl⟩) | (go_at_call 86; refine (eq_hds x.hs y.hs _ (hx.out.hs.mono END) (hy.out.hs.mono END)).go.mono ?_; rintro e w' ⟨rfl, xw, rfl⟩))
  all_goals
    go_ret
    exact ⟨ret_bool (by unfold meEq tyEq; grind), END⟩
end Go.Proofs.YthagkijplklemaaGreatDoor
end

section
namespace Go.Proofs.YthagkijplklemaaGreatDoor
open Go.ChangeShapes Go.WideShapes Go.ChangeAt Go.RowKit Go.Sc
theorem imp_hf {w : World} {s t : Sl Ip} (hs : s.Ok eIp 3 w) (ht : t.Ok eIp 3 w) :
    Hid (∀ (k : Nat) (x y : Ip) (W : World), Below w.heap.size w W → s.xs[k]? = some x → t.xs[k]? = some y → Gives Tryz.prog 45 #[x.v, y.v] W (.bool (ipEq x y))) :=
  fun k x y W hb hx hy => sameImp_any x y W ((hs.mono hb).at_ k x hx).1 ((ht.mono hb).at_ k y hy).1
theorem app_hf {w : World} {s t : Sl Ap} (hs : s.Ok eAp 3 w) (ht : t.Ok eAp 3 w) :
    Hid (∀ (k : Nat) (x y : Ap) (W : World), Below w.heap.size w W → s.xs[k]? = some x → t.xs[k]? = some y → Gives Tryz.prog 48 #[x.v, y.v] W (.bool (apEq x y))) :=
  fun k x y W hb hx hy => sameApp_any x y W ((hs.mono hb).at_ k x hx).1 ((ht.mono hb).at_ k y hy).1
theorem cls_hf {w : World} {s t : Sl Cl} (hs : s.Ok eCl 7 w) (ht : t.Ok eCl 7 w) :
    Hid (∀ (k : Nat) (x y : Cl) (W : World), Below w.heap.size w W → s.xs[k]? = some x → t.xs[k]? = some y → Gives Tryz.prog 50 #[x.v, y.v] W (.bool (clEq x y))) :=
  fun k x y W hb hx hy => sameClass_any x y W ((hs.mono hb).at_ k x hx).1 ((ht.mono hb).at_ k y hy).1
theorem met_hf {w : World} {s t : Sl Me} (hs : s.Ok eMe 11 w) (ht : t.Ok eMe 11 w) :
    Hid (∀ (k : Nat) (x y : Me) (W : World), Below w.heap.size w W → s.xs[k]? = some x → t.xs[k]? = some y → Gives Tryz.prog 52 #[x.v, y.v] W (.bool (meEq x y))) :=
  fun k x y W hb hx hy => sameMethod_any x y W ((hs.mono hb).at_ k x hx).1 ((ht.mono hb).at_ k y hy).1
set_option maxRecDepth 20000 in
theorem eqf_cls (s t : Sl Cl) (F : Cl → Cl → Bool) (w : World) (hs : Hid (s.Ok eCl 7 w)) (ht : Hid (t.Ok eCl 7 w))
    (hf : Hid (∀ (k : Nat) (x y : Cl) (W : World), Below w.heap.size w W → s.xs[k]? = some x → t.xs[k]? = some y → Gives Tryz.prog 50 #[x.v, y.v] W (.bool (F x y)))) :
    Gives Tryz.prog 49 #[s.v, t.v, .func (.func 50) #[] #[]] w (.bool (eqF F s.xs t.xs)) := by
  obtain ⟨a, c, xs⟩ := s
  obtain ⟨a', c', ys⟩ := t
  have hle := hs.out.le
  have hmx := hs.out.max
  have hle' := ht.out.le
  have hmx' := ht.out.max
  simp only at hle hmx hle' hmx'
  show Gives _ _ #[.slice a xs.length c, .slice a' ys.length c', .func (.func 50) _ _] _ _
  unfold Gives
  by_cases hl : xs.length = ys.length
  · have hl' : ((xs.length : Int) != (ys.length : Int)) = false := by simp [hl]
    have HL := hid hl
    clear hl
    go_enter Tryz.func49, Tryz.ntmps49
    go_wp2_with fail
    go_loopw [17] (fun i wr => ∃ k : Nat, k ≤ xs.length ∧ i = .int .i64 k ∧ (∀ (j : Nat) (x y : Cl), j < k → xs[j]? = some x → ys[j]? = some y → F x y = true) ∧ ∃ x : Ext w, wr = x.val) (fun i _ => xs.length - (intOf i).toNat)
    case atStart => exact ⟨0, Nat.zero_le _, rfl, fun _ _ _ h => absurd h (by omega), ⟨w, Below.refl _ _⟩, rfl⟩
    case round =>
      obtain ⟨k, hk, rfl, hz, x, rfl⟩ := hrel
      have HZ := hid hz
      clear hz
      by_cases hlt : k < xs.length
      · obtain ⟨y, hy⟩ := getElem?_of_lt hlt
        obtain ⟨hok, b, off, hba, hbl, hc⟩ := hs.out.at_ k y hy
        simp only at hba
        subst hba
        have h0 := hc 0 _ rfl; have h1 := hc 1 _ rfl; have h2 := hc 2 _ rfl; have h3 := hc 3 _ rfl; have h4 := hc 4 _ rfl; have h5 := hc 5 _ rfl; have h6 := hc 6 _ rfl; simp only [Nat.add_zero] at h0
        haveI : InW b w := ⟨hbl⟩
        have hlt2 : k < ys.length := by have := HL.out; omega
        obtain ⟨z, hzz⟩ := getElem?_of_lt hlt2
        obtain ⟨hok', b', off', hba', hbl', hc'⟩ := ht.out.at_ k z hzz
        simp only at hba'
        subst hba'
        have g0 := hc' 0 _ rfl; have g1 := hc' 1 _ rfl; have g2 := hc' 2 _ rfl; have g3 := hc' 3 _ rfl; have g4 := hc' 4 _ rfl; have g5 := hc' 5 _ rfl; have g6 := hc' 6 _ rfl; simp only [Nat.add_zero] at g0
        haveI : InW b' w := ⟨hbl'⟩
        have HY := hid hy
        have HZZ := hid hzz
        clear hc hok hy hbl hc' hok' hzz hbl'
        have hk1 : (0 : Int) ≤ (k : Int) := by omega
        have hk2 : (k : Int) < (xs.length : Int) := by omega
        have hk3 : (k : Int) < (ys.length : Int) := by omega
        by_cases hF : F y z = true
        · have HF := hid hF
          go_wp2_with (go_at_call 50; refine (hf.out k y z _ END HY.out HZZ.out).go.mono ?_; rintro e w' ⟨rfl, x, rfl⟩)
          go_roundw
          case rel => exact ⟨k + 1, by omega, by go_num, fun j u v hj hu hv => by
              rcases Nat.lt_succ_iff_lt_or_eq.1 hj with h | rfl
              · exact HZ.out j u v h hu hv
              · have h1 := HY.out.symm.trans hu; have h2 := HZZ.out.symm.trans hv; cases h1; cases h2; exact HF.out, ⟨_, END⟩, rfl⟩
          case measure => simp [intOf]; omega
        · simp only [Bool.not_eq_true] at hF
          have HF := hid hF
          go_wp2_with (go_at_call 50; refine (hf.out k y z _ END HY.out HZZ.out).go.mono ?_; rintro e w' ⟨rfl, x, rfl⟩)
          go_ret
          exact ⟨ret_bool (eqF_false HL.out HY.out HZZ.out HF.out).symm, END⟩
      · go_wp2_with fail
        go_ret
        exact ⟨ret_bool (eqF_true HL.out fun j u v hu hv => HZ.out j u v (by have := (List.getElem?_eq_some_iff.1 hu).1; omega) hu hv).symm, END⟩
  · have hl' : ((xs.length : Int) != (ys.length : Int)) = true := by simp; omega
    have HL := hid hl
    clear hl
    go_enter Tryz.func49, Tryz.ntmps49
    go_wp2_with fail
    go_ret
    exact ⟨ret_bool (eqF_len HL.out).symm, END⟩
set_option maxRecDepth 20000 in
theorem eqf_met (s t : Sl Me) (F : Me → Me → Bool) (w : World) (hs : Hid (s.Ok eMe 11 w)) (ht : Hid (t.Ok eMe 11 w))
    (hf : Hid (∀ (k : Nat) (x y : Me) (W : World), Below w.heap.size w W → s.xs[k]? = some x → t.xs[k]? = some y → Gives Tryz.prog 52 #[x.v, y.v] W (.bool (F x y)))) :
    Gives Tryz.prog 51 #[s.v, t.v, .func (.func 52) #[] #[]] w (.bool (eqF F s.xs t.xs)) := by
  obtain ⟨a, c, xs⟩ := s
  obtain ⟨a', c', ys⟩ := t
  have hle := hs.out.le
  have hmx := hs.out.max
  have hle' := ht.out.le
  have hmx' := ht.out.max
  simp only at hle hmx hle' hmx'
  show Gives _ _ #[.slice a xs.length c, .slice a' ys.length c', .func (.func 52) _ _] _ _
  unfold Gives
  by_cases hl : xs.length = ys.length
  · have hl' : ((xs.length : Int) != (ys.length : Int)) = false := by simp [hl]
    have HL := hid hl
    clear hl
    go_enter Tryz.func51, Tryz.ntmps51
    go_wp2_with fail
    go_loopw [17] (fun i wr => ∃ k : Nat, k ≤ xs.length ∧ i = .int .i64 k ∧ (∀ (j : Nat) (x y : Me), j < k → xs[j]? = some x → ys[j]? = some y → F x y = true) ∧ ∃ x : Ext w, wr = x.val) (fun i _ => xs.length - (intOf i).toNat)
    case atStart => exact ⟨0, Nat.zero_le _, rfl, fun _ _ _ h => absurd h (by omega), ⟨w, Below.refl _ _⟩, rfl⟩
    case round =>
      obtain ⟨k, hk, rfl, hz, x, rfl⟩ := hrel
      have HZ := hid hz
      clear hz
      by_cases hlt : k < xs.length
      · obtain ⟨y, hy⟩ := getElem?_of_lt hlt
        obtain ⟨hok, b, off, hba, hbl, hc⟩ := hs.out.at_ k y hy
        simp only at hba
        subst hba
        have h0 := hc 0 _ rfl; have h1 := hc 1 _ rfl; have h2 := hc 2 _ rfl; have h3 := hc 3 _ rfl; have h4 := hc 4 _ rfl; have h5 := hc 5 _ rfl; have h6 := hc 6 _ rfl; have h7 := hc 7 _ rfl; have h8 := hc 8 _ rfl; have h9 := hc 9 _ rfl; have h10 := hc 10 _ rfl; simp only [Nat.add_zero] at h0
        haveI : InW b w := ⟨hbl⟩
        have hlt2 : k < ys.length := by have := HL.out; omega
        obtain ⟨z, hzz⟩ := getElem?_of_lt hlt2
        obtain ⟨hok', b', off', hba', hbl', hc'⟩ := ht.out.at_ k z hzz
        simp only at hba'
        subst hba'
        have g0 := hc' 0 _ rfl; have g1 := hc' 1 _ rfl; have g2 := hc' 2 _ rfl; have g3 := hc' 3 _ rfl; have g4 := hc' 4 _ rfl; have g5 := hc' 5 _ rfl; have g6 := hc' 6 _ rfl; have g7 := hc' 7 _ rfl; have g8 := hc' 8 _ rfl; have g9 := hc' 9 _ rfl; have g10 := hc' 10 _ rfl; simp only [Nat.add_zero] at g0
        haveI : InW b' w := ⟨hbl'⟩
        have HY := hid hy
        have HZZ := hid hzz
        clear hc hok hy hbl hc' hok' hzz hbl'
        have hk1 : (0 : Int) ≤ (k : Int) := by omega
        have hk2 : (k : Int) < (xs.length : Int) := by omega
        have hk3 : (k : Int) < (ys.length : Int) := by omega
        by_cases hF : F y z = true
        · have HF := hid hF
          go_wp2_with (go_at_call 52; refine (hf.out k y z _ END HY.out HZZ.out).go.mono ?_; rintro e w' ⟨rfl, x, rfl⟩)
          go_roundw
          case rel => exact ⟨k + 1, by omega, by go_num, fun j u v hj hu hv => by
              rcases Nat.lt_succ_iff_lt_or_eq.1 hj with h | rfl
              · exact HZ.out j u v h hu hv
              · have h1 := HY.out.symm.trans hu; have h2 := HZZ.out.symm.trans hv; cases h1; cases h2; exact HF.out, ⟨_, END⟩, rfl⟩
          case measure => simp [intOf]; omega
        · simp only [Bool.not_eq_true] at hF
          have HF := hid hF
          go_wp2_with (go_at_call 52; refine (hf.out k y z _ END HY.out HZZ.out).go.mono ?_; rintro e w' ⟨rfl, x, rfl⟩)
          go_ret
          exact ⟨ret_bool (eqF_false HL.out HY.out HZZ.out HF.out).symm, END⟩
      · go_wp2_with fail
        go_ret
        exact ⟨ret_bool (eqF_true HL.out fun j u v hu hv => HZ.out j u v (by have := (List.getElem?_eq_some_iff.1 hu).1; omega) hu hv).symm, END⟩
  · have hl' : ((xs.length : Int) != (ys.length : Int)) = true := by simp; omega
    have HL := hid hl
    clear hl
    go_enter Tryz.func51, Tryz.ntmps51
    go_wp2_with fail
    go_ret
    exact ⟨ret_bool (eqF_len HL.out).symm, END⟩
theorem same_any (x y : Pk) (w : World) (hx : Hid (x.Ok w)) (hy : Hid (y.Ok w)) : Gives Tryz.prog 20 #[x.v, y.v] w (.bool (pkEq x y)) := by
  unfold Gives
  go_enter Tryz.func20, Tryz.ntmps20
  go_wp2_with (first | (go_at_call 44; refine (eqf_imp x.imports y.imports ipEq _ (hx.out.imports.mono END) (hy.out.imports.mono END) (imp_hf (hx.out.imports.mono END) (hy.out.imports.mono END))).go.mono ?_; rintro e w' ⟨rfl, xw, rfl⟩) | (go_at_call 47; refine (eqf_app x.applets y.applets apEq _ (hx.out.applets.mono END) (hy.out.applets.mono END) (app_hf (hx.out.applets.mono END) (hy.out.applets.mono END))).go.mono ?_; rintro e w' ⟨rfl, xw, rfl⟩) | (go_at_call 46; refine (bytesEqual_any x.aid y.aid _ (hx.out.aid.mono END) (hy.out.aid.mono END)).go.mono ?_; rintro e w' ⟨rfl, xw, rfl⟩) | (go_at_call 49; refine (eqf_cls x.classes y.classes clEq _ (hx.out.classes.mono END) (hy.out.classes.mono END) (cls_hf (hx.out.classes.mono END) (hy.out.classes.mono END))).go.mono ?_; rintro e w' ⟨rfl, xw, rfl⟩) | (go_at_call 51; refine (eqf_met x.methods y.methods meEq _ (hx.out.methods.mono END) (hy.out.methods.mono END) (met_hf (hx.out.methods.mono END) (hy.out.methods.mono END))).go.mono ?_; rintro e w' ⟨rfl, xw, rfl⟩) | (go_at_call 53; refine (eq_tys x.statics y.statics _ (hx.out.statics.mono END) (hy.out.statics.mono END)).go.mono ?_; rintro e w' ⟨rfl, xw, rfl⟩))
  all_goals
    go_ret
    exact ⟨ret_bool (by unfold pkEq; grind), END⟩
end Go.Proofs.YthagkijplklemaaGreatDoor
end
