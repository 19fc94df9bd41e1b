/- The reference's comparisons: methods. -/
import Derived.Test.YthagkijplklemaaGreatDoorS18
import Derived.Test.YthagkijplklemaaGreatDoorS17
section
namespace Go.Proofs.YthagkijplklemaaGreatDoor
open Go.ChangeShapes Go.WideShapes Go.ChangeAt Go.RowKit Go.Sc
set_option maxRecDepth 20000 in
set_option maxHeartbeats 10000000 in
theorem rsameMethod_any (x y : Me) (w : World) (hx : Hid (x.Ok w)) (hy : Hid (y.Ok w)) : Gives Tryz.prog 43 #[x.v, y.v] w (.bool (meEq x y)) := by
  obtain ⟨s1, a1, c1, f1, ⟨r1, r2, r3⟩, l1, k1, ⟨ea, ec, xs⟩, ⟨ia, ic, us⟩⟩ := x
  obtain ⟨s2, a2, c2, f2, ⟨q1, q2, q3⟩, l2, k2, ⟨ea', ec', ys⟩, ⟨ia', ic', vs⟩⟩ := y
  have hF : ∃ bF, bF = eqF (fun a b => decide (a = b)) f1.xs f2.xs := ⟨_, rfl⟩
  obtain ⟨bF, ebF⟩ := hF
  have hF : Hid (∀ W : World, Below w.heap.size w W → Gives Tryz.prog 41 #[.slice f1.a f1.xs.length f1.c, .slice f2.a f2.xs.length f2.c] W (.bool bF)) := fun W h => by rw [ebF]; exact rsameTys_any f1 f2 W (hx.out.params.mono h) (hy.out.params.mono h)
  have hS : Hid (meEq ⟨s1, a1, c1, f1, ⟨r1, r2, r3⟩, l1, k1, ⟨ea, ec, xs⟩, ⟨ia, ic, us⟩⟩ ⟨s2, a2, c2, f2, ⟨q1, q2, q3⟩, l2, k2, ⟨ea', ec', ys⟩, ⟨ia', ic', vs⟩⟩ = ((s1 == s2) && ((a1 == a2) && (decide (c1 = c2) && ((decide (r1 = q1) && (decide (r2 = q2) && decide (r3 = q3))) && (decide (l1 = l2) && (decide (k1 = k2) && (bF && (eqF (fun a b => decide (a = b)) xs ys && eqF (fun a b => decide (a = b)) us vs))))))))) := by
    rw [ebF]; rfl
  clear ebF
  rw [hS.out]
  have hle := hx.out.code.le
  have hmx := hx.out.code.max
  have hle' := hy.out.code.le
  have hmx' := hy.out.code.max
  have gle := hx.out.hs.le
  have gmx := hx.out.hs.max
  have gle' := hy.out.hs.le
  have gmx' := hy.out.hs.max
  simp only at hle hmx hle' hmx' gle gmx gle' gmx'
  clear hS
  show Gives _ _ #[.agg #[.bool s1, .bool a1, .int .i64 c1, .slice f1.a f1.xs.length f1.c, .int .i64 r1, .int .i64 r2, .int .i64 r3, .int .i64 l1, .int .i64 k1, .slice ea xs.length ec, .slice ia us.length ic], .agg #[.bool s2, .bool a2, .int .i64 c2, .slice f2.a f2.xs.length f2.c, .int .i64 q1, .int .i64 q2, .int .i64 q3, .int .i64 l2, .int .i64 k2, .slice ea' ys.length ec', .slice ia' vs.length ic']] _ _
  unfold Gives
  by_cases h1 : s1 = s2
  · subst h1
    by_cases h2 : a1 = a2
    · subst h2
      by_cases h3 : c1 = c2
      · subst h3
        cases bF with
        | false =>
          go_enter Tryz.func43, Tryz.ntmps43
          go_wp2_with (first | (go_at_call 41; refine (hF.out _ END).go.mono ?_; rintro e w' ⟨rfl, xw, rfl⟩) | fail)
          go_ret
          exact ⟨ret_bool (by simp), END⟩
        | true =>
          by_cases h4 : (⟨r1, ⟨r2, r3⟩⟩ : Ty) = ⟨q1, ⟨q2, q3⟩⟩
          · simp only [Ty.mk.injEq, Rf.mk.injEq] at h4
            obtain ⟨rfl, rfl, rfl⟩ := h4
            by_cases h5 : l1 = l2
            · subst h5
              by_cases h6 : k1 = k2
              · subst h6
                by_cases h7 : xs.length = ys.length
                · have hl' : ((xs.length : Int) != (ys.length : Int)) = false := by simp [h7]
                  have HL := hid h7
                  clear h7
                  by_cases h8 : us.length = vs.length
                  · have gl' : ((us.length : Int) != (vs.length : Int)) = false := by simp [h8]
                    have GL := hid h8
                    clear h8
                    go_enter Tryz.func43, Tryz.ntmps43
                    go_wp2_with (first | (go_at_call 41; refine (hF.out _ END).go.mono ?_; rintro e w' ⟨rfl, xw, rfl⟩) | fail)
                    refine gen_w (fun V => Below w.heap.size w V ∧ w.heap.size + 1 < V.heap.size ∧ V.cell? ⟨w.heap.size, 9, none⟩ = some (.slice ea xs.length ec) ∧ V.cell? ⟨w.heap.size + 1, 9, none⟩ = some (.slice ea' ys.length ec') ∧ V.cell? ⟨w.heap.size, 10, none⟩ = some (.slice ia us.length ic) ∧ V.cell? ⟨w.heap.size + 1, 10, none⟩ = some (.slice ia' vs.length ic')) ⟨END, InW.lt, by simp [Ext.cell, alloc_cell_in], by simp [Ext.cell], by simp [Ext.cell, alloc_cell_in], by simp [Ext.cell]⟩ ?_
                    rintro V ⟨hwV, hV2, k1', k2', k3', k4'⟩
                    have hwV := hid hwV
                    have hs1 : Hid ((⟨ea, ec, xs⟩ : Sl In).Ok eIn 4 V) := hid (hx.out.code.mono hwV.out)
                    have ht1 : Hid ((⟨ea', ec', ys⟩ : Sl In).Ok eIn 4 V) := hid (hy.out.code.mono hwV.out)
                    have hs2 : Hid ((⟨ia, ic, us⟩ : Sl Hd).Ok eHd 4 V) := hid (hx.out.hs.mono hwV.out)
                    have ht2 : Hid ((⟨ia', ic', vs⟩ : Sl Hd).Ok eHd 4 V) := hid (hy.out.hs.mono hwV.out)
                    have hA : w.heap.size < V.heap.size := by omega
                    haveI : InW w.heap.size V := ⟨hA⟩
                    haveI : InW (w.heap.size + 1) V := ⟨hV2⟩
                    clear hF hx hy
                    go_loopw [5] (fun i wr => ∃ (k : Nat) (x : Ext V), k ≤ xs.length ∧ i = .int .i64 k ∧ Hid (∀ (j : Nat) (u v : In), j < k → xs[j]? = some u → ys[j]? = some v → u = v) ∧ wr = x.val) (fun i _ => xs.length - (intOf i).toNat)
                    case atStart => exact ⟨0, ⟨V, Below.refl _ _⟩, Nat.zero_le _, rfl, hid (fun _ _ _ h => absurd h (by omega)), rfl⟩
                    case round =>
                      obtain ⟨k, x, hk, rfl, HZ, rfl⟩ := hrel
                      by_cases hlt : k < xs.length
                      · obtain ⟨y, hy⟩ := getElem?_of_lt hlt
                        have hlt2 : k < ys.length := by have := HL.out; omega
                        obtain ⟨z, hzz⟩ := getElem?_of_lt hlt2
                        obtain ⟨hok, b, off, hba, hbl, hc⟩ := hs1.out.at_ k y hy
                        obtain ⟨hok', b', off', hba', hbl', hc'⟩ := ht1.out.at_ k z hzz
                        simp only at hba hba'
                        subst hba
                        subst hba'
                        have h0 := hc 0 _ rfl; have h1 := hc 1 _ rfl; have h2 := hc 2 _ rfl; have h3 := hc 3 _ rfl; simp only [Nat.add_zero] at h0
                        have g0 := hc' 0 _ rfl; have g1 := hc' 1 _ rfl; have g2 := hc' 2 _ rfl; have g3 := hc' 3 _ rfl; simp only [Nat.add_zero] at g0
                        haveI : InW b V := ⟨hbl⟩
                        haveI : InW b' V := ⟨hbl'⟩
                        have HY := hid hy
                        have HZZ := hid hzz
                        clear hc hok hy hc' hok' hzz hbl'
                        have hk1 : (0 : Int) ≤ (k : Int) := by omega
                        have hk2 : (k : Int) < (xs.length : Int) := by omega
                        have hk3 : (k : Int) < (ys.length : Int) := by omega
                        by_cases hF : y = z
                        · subst hF
                          go_wp2_with fail
                          refine wp_region_ext (by kernel_rfl) (by kernel_rfl) ?_; (repeat (go_big_quiet_step (fail))); refine wpQuiet_nil ?_; intro xw
                          go_wp2_with fail
                          go_roundw
                          case rel => exact ⟨k + 1, ⟨_, END⟩, by omega, by go_num, hid (fun j u v hj hu hv => by
                              rcases Nat.lt_succ_iff_lt_or_eq.1 hj with h | rfl
                              · exact HZ.out j u v h hu hv
                              · have h1 := HY.out.symm.trans hu; have h2 := HZZ.out.symm.trans hv; cases h1; cases h2; rfl), rfl⟩
                          case measure => simp [intOf]; omega
                        · have HF := hid hF
                          rcases neIn hF with e | ⟨e0, e⟩ | ⟨e0, e1, e⟩ | ⟨e0, e1, e2, e⟩
                          all_goals
                            clear hF
                            go_wp2_with fail
                            refine wp_region_ext (by kernel_rfl) (by kernel_rfl) ?_; (repeat (go_big_quiet_step (fail))); refine wpQuiet_nil ?_; intro xw
                            go_wp2_with fail
                            go_ret
                            have hE := eqF_false (p := fun a b : In => decide (a = b)) HL.out HY.out HZZ.out (by simpa using HF.out)
                            exact ⟨ret_bool (by simp [hE]), (hwV.out.trans (Below.mono (show Below V.heap.size V _ from END) hwV.out.size))⟩
                      · have EQ1 := hid (eqF_true (p := fun a b : In => decide (a = b)) HL.out fun j u v hu hv => by simpa using HZ.out j u v (by have := (List.getElem?_eq_some_iff.1 hu).1; omega) hu hv)
                        go_wp2_with fail
                        have EQ0 := EQ1
                        clear EQ1 hk hlt
                        go_loopw [6] (fun i wr => ∃ (k : Nat) (x : Ext V), k ≤ us.length ∧ i = .int .i64 k ∧ Hid (∀ (j : Nat) (u v : Hd), j < k → us[j]? = some u → vs[j]? = some v → u = v) ∧ wr = x.val) (fun i _ => us.length - (intOf i).toNat)
                        case atStart => exact ⟨0, x, Nat.zero_le _, rfl, hid (fun _ _ _ h => absurd h (by omega)), rfl⟩
                        case round =>
                          obtain ⟨k, x, hk, rfl, HZ, rfl⟩ := hrel
                          by_cases hlt : k < us.length
                          · obtain ⟨y, hy⟩ := getElem?_of_lt hlt
                            have hlt2 : k < vs.length := by have := GL.out; omega
                            obtain ⟨z, hzz⟩ := getElem?_of_lt hlt2
                            obtain ⟨hok, b, off, hba, hbl, hc⟩ := hs2.out.at_ k y hy
                            obtain ⟨hok', b', off', hba', hbl', hc'⟩ := ht2.out.at_ k z hzz
                            simp only at hba hba'
                            subst hba
                            subst hba'
                            have h0 := hc 0 _ rfl; have h1 := hc 1 _ rfl; have h2 := hc 2 _ rfl; have h3 := hc 3 _ rfl; simp only [Nat.add_zero] at h0
                            have g0 := hc' 0 _ rfl; have g1 := hc' 1 _ rfl; have g2 := hc' 2 _ rfl; have g3 := hc' 3 _ rfl; simp only [Nat.add_zero] at g0
                            haveI : InW b V := ⟨hbl⟩
                            haveI : InW b' V := ⟨hbl'⟩
                            have HY := hid hy
                            have HZZ := hid hzz
                            clear hc hok hy hc' hok' hzz hbl'
                            have hk1 : (0 : Int) ≤ (k : Int) := by omega
                            have hk2 : (k : Int) < (us.length : Int) := by omega
                            have hk3 : (k : Int) < (vs.length : Int) := by omega
                            by_cases hF : y = z
                            · subst hF
                              go_wp2_with fail
                              refine wp_region_ext (by kernel_rfl) (by kernel_rfl) ?_; (repeat (go_big_quiet_step (fail))); refine wpQuiet_nil ?_; intro xw
                              go_wp2_with fail
                              go_roundw
                              case rel => exact ⟨k + 1, ⟨_, END⟩, by omega, by go_num, hid (fun j u v hj hu hv => by
                                  rcases Nat.lt_succ_iff_lt_or_eq.1 hj with h | rfl
                                  · exact HZ.out j u v h hu hv
                                  · have h1 := HY.out.symm.trans hu; have h2 := HZZ.out.symm.trans hv; cases h1; cases h2; rfl), rfl⟩
                              case measure => simp [intOf]; omega
                            · have HF := hid hF
                              rcases neHd hF with e | ⟨e0, e⟩ | ⟨e0, e1, e⟩ | ⟨e0, e1, e2, e⟩
                              all_goals
                                clear hF
                                go_wp2_with fail
                                refine wp_region_ext (by kernel_rfl) (by kernel_rfl) ?_; (repeat (go_big_quiet_step (fail))); refine wpQuiet_nil ?_; intro xw
                                go_wp2_with fail
                                go_ret
                                have hE := eqF_false (p := fun a b : Hd => decide (a = b)) GL.out HY.out HZZ.out (by simpa using HF.out)
                                exact ⟨ret_bool (by simp [hE]), (hwV.out.trans (Below.mono (show Below V.heap.size V _ from END) hwV.out.size))⟩
                          · have EQ1 := hid (eqF_true (p := fun a b : Hd => decide (a = b)) GL.out fun j u v hu hv => by simpa using HZ.out j u v (by have := (List.getElem?_eq_some_iff.1 hu).1; omega) hu hv)
                            go_wp2_with fail
                            go_ret
                            exact ⟨ret_bool (by simp [EQ0.out, EQ1.out]), (hwV.out.trans (Below.mono (show Below V.heap.size V _ from END) hwV.out.size))⟩
                  · have gl' : ((us.length : Int) != (vs.length : Int)) = true := by simp; omega
                    have GL := hid h8
                    clear h8
                    go_enter Tryz.func43, Tryz.ntmps43
                    go_wp2_with (first | (go_at_call 41; refine (hF.out _ END).go.mono ?_; rintro e w' ⟨rfl, xw, rfl⟩) | fail)
                    go_ret
                    exact ⟨ret_bool (by rw [eqF_len GL.out]; simp), END⟩
                · have hl' : ((xs.length : Int) != (ys.length : Int)) = true := by simp; omega
                  have HL := hid h7
                  clear h7
                  go_enter Tryz.func43, Tryz.ntmps43
                  go_wp2_with (first | (go_at_call 41; refine (hF.out _ END).go.mono ?_; rintro e w' ⟨rfl, xw, rfl⟩) | fail)
                  go_ret
                  exact ⟨ret_bool (by rw [eqF_len HL.out]; simp), END⟩
              · have HN := hid h6
                go_enter Tryz.func43, Tryz.ntmps43
                go_wp2_with (first | (go_at_call 41; refine (hF.out _ END).go.mono ?_; rintro e w' ⟨rfl, xw, rfl⟩) | fail)
                go_ret
                exact ⟨ret_bool (by simp [HN.out]), END⟩
            · have HN := hid h5
              go_enter Tryz.func43, Tryz.ntmps43
              go_wp2_with (first | (go_at_call 41; refine (hF.out _ END).go.mono ?_; rintro e w' ⟨rfl, xw, rfl⟩) | fail)
              go_ret
              exact ⟨ret_bool (by simp [HN.out]), END⟩
          · have HN : Hid ((decide (r1 = q1) && (decide (r2 = q2) && decide (r3 = q3))) = false) := by
              have : (decide (r1 = q1) && (decide (r2 = q2) && decide (r3 = q3))) = false := by
                simp only [Ty.mk.injEq, Rf.mk.injEq] at h4
                by_cases z1 : r1 = q1 <;> by_cases z2 : r2 = q2 <;> by_cases z3 : r3 = q3 <;> simp_all
              exact this
            rcases neTy h4 with e | ⟨e0, e⟩ | ⟨e0, e1, e⟩
            all_goals
              simp only at e
              clear h4
              go_enter Tryz.func43, Tryz.ntmps43
              go_wp2_with (first | (go_at_call 41; refine (hF.out _ END).go.mono ?_; rintro e w' ⟨rfl, xw, rfl⟩) | fail)
              go_ret
              exact ⟨ret_bool (by rw [HN.out]; simp), END⟩
      · have HN := hid h3
        go_enter Tryz.func43, Tryz.ntmps43
        go_wp2_with (first | (go_at_call 41; refine (hF.out _ END).go.mono ?_; rintro e w' ⟨rfl, xw, rfl⟩) | fail)
        go_ret
        exact ⟨ret_bool (by simp [HN.out]), END⟩
    · cases s1 <;> cases a1 <;> cases a2
      all_goals first
        | exact absurd rfl h2
        | (clear h2
           go_enter Tryz.func43, Tryz.ntmps43
           go_wp2_with (first | (go_at_call 41; refine (hF.out _ END).go.mono ?_; rintro e w' ⟨rfl, xw, rfl⟩) | fail)
           go_ret
           exact ⟨ret_bool (by simp), END⟩)
  · cases s1 <;> cases s2
    all_goals first
      | exact absurd rfl h1
      | (clear h1
         cases a1
         all_goals (
           go_enter Tryz.func43, Tryz.ntmps43
           go_wp2_with (first | (go_at_call 41; refine (hF.out _ END).go.mono ?_; rintro e w' ⟨rfl, xw, rfl⟩) | fail)
           go_ret
           exact ⟨ret_bool (by simp), END⟩))
end Go.Proofs.YthagkijplklemaaGreatDoor
end
