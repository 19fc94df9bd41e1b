/- Same: packages, by the program. -/
import Derived.Test.YthagkijplklemaaGreatDoorM16
section
namespace Go.Proofs.YthagkijplklemaaGreatDoor
open Go.ChangeShapes Go.WideShapes Go.ChangeAt Go.RowKit Go.Sc
theorem imp_hf {w : World} {s t : Sl Ip} (hs : s.Ok eIp 3 w) (ht : t.Ok eIp 3 w) :
    Hid (∀ (k : Nat) (x y : Ip) (W : World), Below w.heap.size w W → s.xs[k]? = some x → t.xs[k]? = some y → Gives Tryz.prog 45 #[x.v, y.v] W (.bool (ipEq x y))) :=
  fun k x y W hb hx hy => sameImp_any x y W ((hs.mono hb).at_ k x hx).1 ((ht.mono hb).at_ k y hy).1
theorem app_hf {w : World} {s t : Sl Ap} (hs : s.Ok eAp 3 w) (ht : t.Ok eAp 3 w) :
    Hid (∀ (k : Nat) (x y : Ap) (W : World), Below w.heap.size w W → s.xs[k]? = some x → t.xs[k]? = some y → Gives Tryz.prog 48 #[x.v, y.v] W (.bool (apEq x y))) :=
  fun k x y W hb hx hy => sameApp_any x y W ((hs.mono hb).at_ k x hx).1 ((ht.mono hb).at_ k y hy).1
theorem cls_hf {w : World} {s t : Sl Cl} (hs : s.Ok eCl 7 w) (ht : t.Ok eCl 7 w) :
    Hid (∀ (k : Nat) (x y : Cl) (W : World), Below w.heap.size w W → s.xs[k]? = some x → t.xs[k]? = some y → Gives Tryz.prog 50 #[x.v, y.v] W (.bool (clEq x y))) :=
  fun k x y W hb hx hy => sameClass_any x y W ((hs.mono hb).at_ k x hx).1 ((ht.mono hb).at_ k y hy).1
theorem met_hf {w : World} {s t : Sl Me} (hs : s.Ok eMe 11 w) (ht : t.Ok eMe 11 w) :
    Hid (∀ (k : Nat) (x y : Me) (W : World), Below w.heap.size w W → s.xs[k]? = some x → t.xs[k]? = some y → Gives Tryz.prog 52 #[x.v, y.v] W (.bool (meEq x y))) :=
  fun k x y W hb hx hy => sameMethod_any x y W ((hs.mono hb).at_ k x hx).1 ((ht.mono hb).at_ k y hy).1
set_option maxRecDepth 20000 in
theorem eqf_cls (s t : Sl Cl) (F : Cl → Cl → Bool) (w : World) (hs : Hid (s.Ok eCl 7 w)) (ht : Hid (t.Ok eCl 7 w))
    (hf : Hid (∀ (k : Nat) (x y : Cl) (W : World), Below w.heap.size w W → s.xs[k]? = some x → t.xs[k]? = some y → Gives Tryz.prog 50 #[x.v, y.v] W (.bool (F x y)))) :
    Gives Tryz.prog 49 #[s.v, t.v, .func (.func 50) #[] #[]] w (.bool (eqF F s.xs t.xs)) := by
  obtain ⟨a, c, xs⟩ := s
  obtain ⟨a', c', ys⟩ := t
  have hle := hs.out.le
  have hmx := hs.out.max
  have hle' := ht.out.le
  have hmx' := ht.out.max
  simp only at hle hmx hle' hmx'
  show Gives _ _ #[.slice a xs.length c, .slice a' ys.length c', .func (.func 50) _ _] _ _
  unfold Gives
  by_cases hl : xs.length = ys.length
  · have hl' : ((xs.length : Int) != (ys.length : Int)) = false := by simp [hl]
    have HL := hid hl
    clear hl
    go_enter Tryz.func49, Tryz.ntmps49
    go_wp2_with fail
    go_loopw [17] (fun i wr => ∃ k : Nat, k ≤ xs.length ∧ i = .int .i64 k ∧ (∀ (j : Nat) (x y : Cl), j < k → xs[j]? = some x → ys[j]? = some y → F x y = true) ∧ ∃ x : Ext w, wr = x.val) (fun i _ => xs.length - (intOf i).toNat)
    case atStart => exact ⟨0, Nat.zero_le _, rfl, fun _ _ _ h => absurd h (by omega), ⟨w, Below.refl _ _⟩, rfl⟩
    case round =>
      obtain ⟨k, hk, rfl, hz, x, rfl⟩ := hrel
      have HZ := hid hz
      clear hz
      by_cases hlt : k < xs.length
      · obtain ⟨y, hy⟩ := getElem?_of_lt hlt
        obtain ⟨hok, b, off, hba, hbl, hc⟩ := hs.out.at_ k y hy
        simp only at hba
        subst hba
        have h0 := hc 0 _ rfl; have h1 := hc 1 _ rfl; have h2 := hc 2 _ rfl; have h3 := hc 3 _ rfl; have h4 := hc 4 _ rfl; have h5 := hc 5 _ rfl; have h6 := hc 6 _ rfl; simp only [Nat.add_zero] at h0
        haveI : InW b w := ⟨hbl⟩
        have hlt2 : k < ys.length := by have := HL.out; omega
        obtain ⟨z, hzz⟩ := getElem?_of_lt hlt2
        obtain ⟨hok', b', off', hba', hbl', hc'⟩ := ht.out.at_ k z hzz
        simp only at hba'
        subst hba'
        have g0 := hc' 0 _ rfl; have g1 := hc' 1 _ rfl; have g2 := hc' 2 _ rfl; have g3 := hc' 3 _ rfl; have g4 := hc' 4 _ rfl; have g5 := hc' 5 _ rfl; have g6 := hc' 6 _ rfl; simp only [Nat.add_zero] at g0
        haveI : InW b' w := ⟨hbl'⟩
        have HY := hid hy
        have HZZ := hid hzz
        clear hc hok hy hbl hc' hok' hzz hbl'
        have hk1 : (0 : Int) ≤ (k : Int) := by omega
        have hk2 : (k : Int) < (xs.length : Int) := by omega
        have hk3 : (k : Int) < (ys.length : Int) := by omega
        by_cases hF : F y z = true
        · have HF := hid hF
          go_wp2_with (go_at_call 50; refine (hf.out k y z _ (by with_reducible repeat' (first | exact Below.refl _ _ | exact Nat.le_refl _ | refine Below.alloc ?_ ?_ _ | refine below_ext _ ?_ ?_ | refine Below.drew ?_ | refine Below.setCell ?_ ?_ _ | refine le_alloc ?_ | refine Ext.le_size _ ?_ | refine le_drew ?_ | refine le_setCell ?_)) HY.out HZZ.out).go.mono ?_; rintro e w' ⟨rfl, x, rfl⟩)
          go_roundw
          case rel => exact ⟨k + 1, by omega, by go_num, fun j u v hj hu hv => by
              rcases Nat.lt_succ_iff_lt_or_eq.1 hj with h | rfl
              · exact HZ.out j u v h hu hv
              · have h1 := HY.out.symm.trans hu; have h2 := HZZ.out.symm.trans hv; cases h1; cases h2; exact HF.out, ⟨_, (by with_reducible repeat' (first | exact Below.refl _ _ | exact Nat.le_refl _ | refine Below.alloc ?_ ?_ _ | refine below_ext _ ?_ ?_ | refine Below.drew ?_ | refine Below.setCell ?_ ?_ _ | refine le_alloc ?_ | refine Ext.le_size _ ?_ | refine le_drew ?_ | refine le_setCell ?_))⟩, rfl⟩
          case measure => simp [intOf]; omega
        · simp only [Bool.not_eq_true] at hF
          have HF := hid hF
          go_wp2_with (go_at_call 50; refine (hf.out k y z _ (by with_reducible repeat' (first | exact Below.refl _ _ | exact Nat.le_refl _ | refine Below.alloc ?_ ?_ _ | refine below_ext _ ?_ ?_ | refine Below.drew ?_ | refine Below.setCell ?_ ?_ _ | refine le_alloc ?_ | refine Ext.le_size _ ?_ | refine le_drew ?_ | refine le_setCell ?_)) HY.out HZZ.out).go.mono ?_; rintro e w' ⟨rfl, x, rfl⟩)
          go_ret
          exact ⟨ret_bool (eqF_false HL.out HY.out HZZ.out HF.out).symm, (by with_reducible repeat' (first | exact Below.refl _ _ | exact Nat.le_refl _ | refine Below.alloc ?_ ?_ _ | refine below_ext _ ?_ ?_ | refine Below.drew ?_ | refine Below.setCell ?_ ?_ _ | refine le_alloc ?_ | refine Ext.le_size _ ?_ | refine le_drew ?_ | refine le_setCell ?_))⟩
      · go_wp2_with fail
        go_ret
        exact ⟨ret_bool (eqF_true HL.out fun j u v hu hv => HZ.out j u v (by have := (List.getElem?_eq_some_iff.1 hu).1; omega) hu hv).symm, (by with_reducible repeat' (first | exact Below.refl _ _ | exact Nat.le_refl _ | refine Below.alloc ?_ ?_ _ | refine below_ext _ ?_ ?_ | refine Below.drew ?_ | refine Below.setCell ?_ ?_ _ | refine le_alloc ?_ | refine Ext.le_size _ ?_ | refine le_drew ?_ | refine le_setCell ?_))⟩
  · have hl' : ((xs.length : Int) != (ys.length : Int)) = true := by simp; omega
    have HL := hid hl
    clear hl
    go_enter Tryz.func49, Tryz.ntmps49
    go_wp2_with fail
    go_ret
    exact ⟨ret_bool (eqF_len HL.out).symm, (by with_reducible repeat' (first | exact Below.refl _ _ | exact Nat.le_refl _ | refine Below.alloc ?_ ?_ _ | refine below_ext _ ?_ ?_ | refine Below.drew ?_ | refine Below.setCell ?_ ?_ _ | refine le_alloc ?_ | refine Ext.le_size _ ?_ | refine le_drew ?_ | refine le_setCell ?_))⟩
set_option maxRecDepth 20000 in
theorem eqf_met (s t : Sl Me) (F : Me → Me → Bool) (w : World) (hs : Hid (s.Ok eMe 11 w)) (ht : Hid (t.Ok eMe 11 w))
    (hf : Hid (∀ (k : Nat) (x y : Me) (W : World), Below w.heap.size w W → s.xs[k]? = some x → t.xs[k]? = some y → Gives Tryz.prog 52 #[x.v, y.v] W (.bool (F x y)))) :
    Gives Tryz.prog 51 #[s.v, t.v, .func (.func 52) #[] #[]] w (.bool (eqF F s.xs t.xs)) := by
  obtain ⟨a, c, xs⟩ := s
  obtain ⟨a', c', ys⟩ := t
  have hle := hs.out.le
  have hmx := hs.out.max
  have hle' := ht.out.le
  have hmx' := ht.out.max
  simp only at hle hmx hle' hmx'
  show Gives _ _ #[.slice a xs.length c, .slice a' ys.length c', .func (.func 52) _ _] _ _
  unfold Gives
  by_cases hl : xs.length = ys.length
  · have hl' : ((xs.length : Int) != (ys.length : Int)) = false := by simp [hl]
    have HL := hid hl
    clear hl
    go_enter Tryz.func51, Tryz.ntmps51
    go_wp2_with fail
    go_loopw [17] (fun i wr => ∃ k : Nat, k ≤ xs.length ∧ i = .int .i64 k ∧ (∀ (j : Nat) (x y : Me), j < k → xs[j]? = some x → ys[j]? = some y → F x y = true) ∧ ∃ x : Ext w, wr = x.val) (fun i _ => xs.length - (intOf i).toNat)
    case atStart => exact ⟨0, Nat.zero_le _, rfl, fun _ _ _ h => absurd h (by omega), ⟨w, Below.refl _ _⟩, rfl⟩
    case round =>
      obtain ⟨k, hk, rfl, hz, x, rfl⟩ := hrel
      have HZ := hid hz
      clear hz
      by_cases hlt : k < xs.length
      · obtain ⟨y, hy⟩ := getElem?_of_lt hlt
        obtain ⟨hok, b, off, hba, hbl, hc⟩ := hs.out.at_ k y hy
        simp only at hba
        subst hba
        have h0 := hc 0 _ rfl; have h1 := hc 1 _ rfl; have h2 := hc 2 _ rfl; have h3 := hc 3 _ rfl; have h4 := hc 4 _ rfl; have h5 := hc 5 _ rfl; have h6 := hc 6 _ rfl; have h7 := hc 7 _ rfl; have h8 := hc 8 _ rfl; have h9 := hc 9 _ rfl; have h10 := hc 10 _ rfl; simp only [Nat.add_zero] at h0
        haveI : InW b w := ⟨hbl⟩
        have hlt2 : k < ys.length := by have := HL.out; omega
        obtain ⟨z, hzz⟩ := getElem?_of_lt hlt2
        obtain ⟨hok', b', off', hba', hbl', hc'⟩ := ht.out.at_ k z hzz
        simp only at hba'
        subst hba'
        have g0 := hc' 0 _ rfl; have g1 := hc' 1 _ rfl; have g2 := hc' 2 _ rfl; have g3 := hc' 3 _ rfl; have g4 := hc' 4 _ rfl; have g5 := hc' 5 _ rfl; have g6 := hc' 6 _ rfl; have g7 := hc' 7 _ rfl; have g8 := hc' 8 _ rfl; have g9 := hc' 9 _ rfl; have g10 := hc' 10 _ rfl; simp only [Nat.add_zero] at g0
        haveI : InW b' w := ⟨hbl'⟩
        have HY := hid hy
        have HZZ := hid hzz
        clear hc hok hy hbl hc' hok' hzz hbl'
        have hk1 : (0 : Int) ≤ (k : Int) := by omega
        have hk2 : (k : Int) < (xs.length : Int) := by omega
        have hk3 : (k : Int) < (ys.length : Int) := by omega
        by_cases hF : F y z = true
        · have HF := hid hF
          go_wp2_with (go_at_call 52; refine (hf.out k y z _ (by with_reducible repeat' (first | exact Below.refl _ _ | exact Nat.le_refl _ | refine Below.alloc ?_ ?_ _ | refine below_ext _ ?_ ?_ | refine Below.drew ?_ | refine Below.setCell ?_ ?_ _ | refine le_alloc ?_ | refine Ext.le_size _ ?_ | refine le_drew ?_ | refine le_setCell ?_)) HY.out HZZ.out).go.mono ?_; rintro e w' ⟨rfl, x, rfl⟩)
          go_roundw
          case rel => exact ⟨k + 1, by omega, by go_num, fun j u v hj hu hv => by
              rcases Nat.lt_succ_iff_lt_or_eq.1 hj with h | rfl
              · exact HZ.out j u v h hu hv
              · have h1 := HY.out.symm.trans hu; have h2 := HZZ.out.symm.trans hv; cases h1; cases h2; exact HF.out, ⟨_, (by with_reducible repeat' (first | exact Below.refl _ _ | exact Nat.le_refl _ | refine Below.alloc ?_ ?_ _ | refine below_ext _ ?_ ?_ | refine Below.drew ?_ | refine Below.setCell ?_ ?_ _ | refine le_alloc ?_ | refine Ext.le_size _ ?_ | refine le_drew ?_ | refine le_setCell ?_))⟩, rfl⟩
          case measure => simp [intOf]; omega
        · simp only [Bool.not_eq_true] at hF
          have HF := hid hF
          go_wp2_with (go_at_call 52; refine (hf.out k y z _ (by with_reducible repeat' (first | exact Below.refl _ _ | exact Nat.le_refl _ | refine Below.alloc ?_ ?_ _ | refine below_ext _ ?_ ?_ | refine Below.drew ?_ | refine Below.setCell ?_ ?_ _ | refine le_alloc ?_ | refine Ext.le_size _ ?_ | refine le_drew ?_ | refine le_setCell ?_)) HY.out HZZ.out).go.mono ?_; rintro e w' ⟨rfl, x, rfl⟩)
          go_ret
          exact ⟨ret_bool (eqF_false HL.out HY.out HZZ.out HF.out).symm, (by with_reducible repeat' (first | exact Below.refl _ _ | exact Nat.le_refl _ | refine Below.alloc ?_ ?_ _ | refine below_ext _ ?_ ?_ | refine Below.drew ?_ | refine Below.setCell ?_ ?_ _ | refine le_alloc ?_ | refine Ext.le_size _ ?_ | refine le_drew ?_ | refine le_setCell ?_))⟩
      · go_wp2_with fail
        go_ret
        exact ⟨ret_bool (eqF_true HL.out fun j u v hu hv => HZ.out j u v (by have := (List.getElem?_eq_some_iff.1 hu).1; omega) hu hv).symm, (by with_reducible repeat' (first | exact Below.refl _ _ | exact Nat.le_refl _ | refine Below.alloc ?_ ?_ _ | refine below_ext _ ?_ ?_ | refine Below.drew ?_ | refine Below.setCell ?_ ?_ _ | refine le_alloc ?_ | refine Ext.le_size _ ?_ | refine le_drew ?_ | refine le_setCell ?_))⟩
  · have hl' : ((xs.length : Int) != (ys.length : Int)) = true := by simp; omega
    have HL := hid hl
    clear hl
    go_enter Tryz.func51, Tryz.ntmps51
    go_wp2_with fail
    go_ret
    exact ⟨ret_bool (eqF_len HL.out).symm, (by with_reducible repeat' (first | exact Below.refl _ _ | exact Nat.le_refl _ | refine Below.alloc ?_ ?_ _ | refine below_ext _ ?_ ?_ | refine Below.drew ?_ | refine Below.setCell ?_ ?_ _ | refine le_alloc ?_ | refine Ext.le_size _ ?_ | refine le_drew ?_ | refine le_setCell ?_))⟩
theorem same_any (x y : Pk) (w : World) (hx : Hid (x.Ok w)) (hy : Hid (y.Ok w)) : Gives Tryz.prog 20 #[x.v, y.v] w (.bool (pkEq x y)) := by
  unfold Gives
  go_enter Tryz.func20, Tryz.ntmps20
  go_wp2_with (first | (go_at_call 44; refine (eqf_imp x.imports y.imports ipEq _ (hx.out.imports.mono (by with_reducible repeat' (first | exact Below.refl _ _ | exact Nat.le_refl _ | refine Below.alloc ?_ ?_ _ | refine below_ext _ ?_ ?_ | refine Below.drew ?_ | refine Below.setCell ?_ ?_ _ | refine le_alloc ?_ | refine Ext.le_size _ ?_ | refine le_drew ?_ | refine le_setCell ?_))) (hy.out.imports.mono (by with_reducible repeat' (first | exact Below.refl _ _ | exact Nat.le_refl _ | refine Below.alloc ?_ ?_ _ | refine below_ext _ ?_ ?_ | refine Below.drew ?_ | refine Below.setCell ?_ ?_ _ | refine le_alloc ?_ | refine Ext.le_size _ ?_ | refine le_drew ?_ | refine le_setCell ?_))) (imp_hf (hx.out.imports.mono (by with_reducible repeat' (first | exact Below.refl _ _ | exact Nat.le_refl _ | refine Below.alloc ?_ ?_ _ | refine below_ext _ ?_ ?_ | refine Below.drew ?_ | refine Below.setCell ?_ ?_ _ | refine le_alloc ?_ | refine Ext.le_size _ ?_ | refine le_drew ?_ | refine le_setCell ?_))) (hy.out.imports.mono (by with_reducible repeat' (first | exact Below.refl _ _ | exact Nat.le_refl _ | refine Below.alloc ?_ ?_ _ | refine below_ext _ ?_ ?_ | refine Below.drew ?_ | refine Below.setCell ?_ ?_ _ | refine le_alloc ?_ | refine Ext.le_size _ ?_ | refine le_drew ?_ | refine le_setCell ?_))))).go.mono ?_; rintro e w' ⟨rfl, xw, rfl⟩) | (go_at_call 47; refine (eqf_app x.applets y.applets apEq _ (hx.out.applets.mono (by with_reducible repeat' (first | exact Below.refl _ _ | exact Nat.le_refl _ | refine Below.alloc ?_ ?_ _ | refine below_ext _ ?_ ?_ | refine Below.drew ?_ | refine Below.setCell ?_ ?_ _ | refine le_alloc ?_ | refine Ext.le_size _ ?_ | refine le_drew ?_ | refine le_setCell ?_))) (hy.out.applets.mono (by with_reducible repeat' (first | exact Below.refl _ _ | exact Nat.le_refl _ | refine Below.alloc ?_ ?_ _ | refine below_ext _ ?_ ?_ | refine Below.drew ?_ | refine Below.setCell ?_ ?_ _ | refine le_alloc ?_ | refine Ext.le_size _ ?_ | refine le_drew ?_ | refine le_setCell ?_))) (app_hf (hx.out.applets.mono (by with_reducible repeat' (first | exact Below.refl _ _ | exact Nat.le_refl _ | refine Below.alloc ?_ ?_ _ | refine below_ext _ ?_ ?_ | refine Below.drew ?_ | refine Below.setCell ?_ ?_ _ | refine le_alloc ?_ | refine Ext.le_size _ ?_ | refine le_drew ?_ | refine le_setCell ?_))) (hy.out.applets.mono (by with_reducible repeat' (first | exact Below.refl _ _ | exact Nat.le_refl _ | refine Below.alloc ?_ ?_ _ | refine below_ext _ ?_ ?_ | refine Below.drew ?_ | refine Below.setCell ?_ ?_ _ | refine le_alloc ?_ | refine Ext.le_size _ ?_ | refine le_drew ?_ | refine le_setCell ?_))))).go.mono ?_; rintro e w' ⟨rfl, xw, rfl⟩) | (go_at_call 46; refine (bytesEqual_any x.aid y.aid _ (hx.out.aid.mono (by with_reducible repeat' (first | exact Below.refl _ _ | exact Nat.le_refl _ | refine Below.alloc ?_ ?_ _ | refine below_ext _ ?_ ?_ | refine Below.drew ?_ | refine Below.setCell ?_ ?_ _ | refine le_alloc ?_ | refine Ext.le_size _ ?_ | refine le_drew ?_ | refine le_setCell ?_))) (hy.out.aid.mono (by with_reducible repeat' (first | exact Below.refl _ _ | exact Nat.le_refl _ | refine Below.alloc ?_ ?_ _ | refine below_ext _ ?_ ?_ | refine Below.drew ?_ | refine Below.setCell ?_ ?_ _ | refine le_alloc ?_ | refine Ext.le_size _ ?_ | refine le_drew ?_ | refine le_setCell ?_)))).go.mono ?_; rintro e w' ⟨rfl, xw, rfl⟩) | (go_at_call 49; refine (eqf_cls x.classes y.classes clEq _ (hx.out.classes.mono (by with_reducible repeat' (first | exact Below.refl _ _ | exact Nat.le_refl _ | refine Below.alloc ?_ ?_ _ | refine below_ext _ ?_ ?_ | refine Below.drew ?_ | refine Below.setCell ?_ ?_ _ | refine le_alloc ?_ | refine Ext.le_size _ ?_ | refine le_drew ?_ | refine le_setCell ?_))) (hy.out.classes.mono (by with_reducible repeat' (first | exact Below.refl _ _ | exact Nat.le_refl _ | refine Below.alloc ?_ ?_ _ | refine below_ext _ ?_ ?_ | refine Below.drew ?_ | refine Below.setCell ?_ ?_ _ | refine le_alloc ?_ | refine Ext.le_size _ ?_ | refine le_drew ?_ | refine le_setCell ?_))) (cls_hf (hx.out.classes.mono (by with_reducible repeat' (first | exact Below.refl _ _ | exact Nat.le_refl _ | refine Below.alloc ?_ ?_ _ | refine below_ext _ ?_ ?_ | refine Below.drew ?_ | refine Below.setCell ?_ ?_ _ | refine le_alloc ?_ | refine Ext.le_size _ ?_ | refine le_drew ?_ | refine le_setCell ?_))) (hy.out.classes.mono (by with_reducible repeat' (first | exact Below.refl _ _ | exact Nat.le_refl _ | refine Below.alloc ?_ ?_ _ | refine below_ext _ ?_ ?_ | refine Below.drew ?_ | refine Below.setCell ?_ ?_ _ | refine le_alloc ?_ | refine Ext.le_size _ ?_ | refine le_drew ?_ | refine le_setCell ?_))))).go.mono ?_; rintro e w' ⟨rfl, xw, rfl⟩) | (go_at_call 51; refine (eqf_met x.methods y.methods meEq _ (hx.out.methods.mono (by with_reducible repeat' (first | exact Below.refl _ _ | exact Nat.le_refl _ | refine Below.alloc ?_ ?_ _ | refine below_ext _ ?_ ?_ | refine Below.drew ?_ | refine Below.setCell ?_ ?_ _ | refine le_alloc ?_ | refine Ext.le_size _ ?_ | refine le_drew ?_ | refine le_setCell ?_))) (hy.out.methods.mono (by with_reducible repeat' (first | exact Below.refl _ _ | exact Nat.le_refl _ | refine Below.alloc ?_ ?_ _ | refine below_ext _ ?_ ?_ | refine Below.drew ?_ | refine Below.setCell ?_ ?_ _ | refine le_alloc ?_ | refine Ext.le_size _ ?_ | refine le_drew ?_ | refine le_setCell ?_))) (met_hf (hx.out.methods.mono (by with_reducible repeat' (first | exact Below.refl _ _ | exact Nat.le_refl _ | refine Below.alloc ?_ ?_ _ | refine below_ext _ ?_ ?_ | refine Below.drew ?_ | refine Below.setCell ?_ ?_ _ | refine le_alloc ?_ | refine Ext.le_size _ ?_ | refine le_drew ?_ | refine le_setCell ?_))) (hy.out.methods.mono (by with_reducible repeat' (first | exact Below.refl _ _ | exact Nat.le_refl _ | refine Below.alloc ?_ ?_ _ | refine below_ext _ ?_ ?_ | refine Below.drew ?_ | refine Below.setCell ?_ ?_ _ | refine le_alloc ?_ | refine Ext.le_size _ ?_ | refine le_drew ?_ | refine le_setCell ?_))))).go.mono ?_; rintro e w' ⟨rfl, xw, rfl⟩) | (go_at_call 53; refine (eq_tys x.statics y.statics _ (hx.out.statics.mono (by with_reducible repeat' (first | exact Below.refl _ _ | exact Nat.le_refl _ | refine Below.alloc ?_ ?_ _ | refine below_ext _ ?_ ?_ | refine Below.drew ?_ | refine Below.setCell ?_ ?_ _ | refine le_alloc ?_ | refine Ext.le_size _ ?_ | refine le_drew ?_ | refine le_setCell ?_))) (hy.out.statics.mono (by with_reducible repeat' (first | exact Below.refl _ _ | exact Nat.le_refl _ | refine Below.alloc ?_ ?_ _ | refine below_ext _ ?_ ?_ | refine Below.drew ?_ | refine Below.setCell ?_ ?_ _ | refine le_alloc ?_ | refine Ext.le_size _ ?_ | refine le_drew ?_ | refine le_setCell ?_)))).go.mono ?_; rintro e w' ⟨rfl, xw, rfl⟩))
  all_goals
    go_ret
    exact ⟨ret_bool (by unfold pkEq; grind), (by with_reducible repeat' (first | exact Below.refl _ _ | exact Nat.le_refl _ | refine Below.alloc ?_ ?_ _ | refine below_ext _ ?_ ?_ | refine Below.drew ?_ | refine Below.setCell ?_ ?_ _ | refine le_alloc ?_ | refine Ext.le_size _ ?_ | refine le_drew ?_ | refine le_setCell ?_))⟩
end Go.Proofs.YthagkijplklemaaGreatDoor
end
