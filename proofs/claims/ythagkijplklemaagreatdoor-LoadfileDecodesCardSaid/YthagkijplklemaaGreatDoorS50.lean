/- The reference's comparison of packages. -/
import Derived.Test.YthagkijplklemaaGreatDoorS18
import Derived.Test.YthagkijplklemaaGreatDoorS19
import Derived.Deep.RegionHeld3
import Derived.BigGuardPart
section
namespace Go.Proofs.YthagkijplklemaaGreatDoor
open Go.ChangeShapes Go.WideShapes Go.ChangeAt Go.RowKit Go.Sc
theorem sp_false {y1 z1 y2 z2 : Int} {bM : Bool} (h : bM = false ∨ ¬ y1 = z1 ∨ (y2 != z2) = true) : (decide (y1 = z1) && (decide (y2 = z2) && bM)) = false := by
  rcases h with rfl | h | h
  · simp
  · simp [h]
  · simp at h; simp [h]
theorem sp_true {y1 z1 y2 z2 : Int} {bM : Bool} (h : y1 = z1) (h2 : (y2 != z2) = false) (h3 : bM = true) : (decide (y1 = z1) && (decide (y2 = z2) && bM)) = true := by
  simp at h2
  simp [h, h2, h3]
set_option maxRecDepth 20000 in
set_option maxHeartbeats 10000000 in
theorem rpkSame_any (x y : Pk) (w : World) (hx : Hid (x.Ok w)) (hy : Hid (y.Ok w)) : Gives Tryz.prog 19 #[x.v, y.v] w (.bool (pkEq x y)) := by
  obtain ⟨a1, j1, n1, ⟨ia, ic, is⟩, ⟨ca, cc, cs⟩, ⟨ma, mc, ms⟩, s1, ⟨pa, pc, ps⟩⟩ := x
  obtain ⟨a2, j2, n2, ⟨ia', ic', is'⟩, ⟨ca', cc', cs'⟩, ⟨ma', mc', ms'⟩, s2, ⟨pa', pc', ps'⟩⟩ := y
  obtain ⟨bA, ebA⟩ : ∃ bA, bA = bEq a1.xs a2.xs := ⟨_, rfl⟩
  obtain ⟨bS, ebS⟩ : ∃ bS, bS = eqF (fun a b => decide (a = b)) s1.xs s2.xs := ⟨_, rfl⟩
  have hA : Hid (∀ W : World, Below w.heap.size w W → Gives Tryz.prog 16 #[.slice a1.a a1.xs.length a1.c, .slice a2.a a2.xs.length a2.c] W (.bool bA)) := fun W h => by rw [ebA]; exact rsame_any a1 a2 W (hx.out.aid.mono h) (hy.out.aid.mono h)
  have hS : Hid (∀ W : World, Below w.heap.size w W → Gives Tryz.prog 41 #[.slice s1.a s1.xs.length s1.c, .slice s2.a s2.xs.length s2.c] W (.bool bS)) := fun W h => by rw [ebS]; exact rsameTys_any s1 s2 W (hx.out.statics.mono h) (hy.out.statics.mono h)
  have hE : Hid (pkEq ⟨a1, j1, n1, ⟨ia, ic, is⟩, ⟨ca, cc, cs⟩, ⟨ma, mc, ms⟩, s1, ⟨pa, pc, ps⟩⟩ ⟨a2, j2, n2, ⟨ia', ic', is'⟩, ⟨ca', cc', cs'⟩, ⟨ma', mc', ms'⟩, s2, ⟨pa', pc', ps'⟩⟩ = (eqF ipEq is is' && (eqF apEq ps ps' && (bA && (decide (j1 = j2) && (decide (n1 = n2) && (eqF clEq cs cs' && (eqF meEq ms ms' && bS)))))))) := by
    rw [ebA, ebS]; rfl
  clear ebA ebS
  rw [hE.out]
  clear hE
  have ile := hx.out.imports.le
  have imx := hx.out.imports.max
  have ile' := hy.out.imports.le
  have imx' := hy.out.imports.max
  have cle := hx.out.classes.le
  have cmx := hx.out.classes.max
  have cle' := hy.out.classes.le
  have cmx' := hy.out.classes.max
  have mle := hx.out.methods.le
  have mmx := hx.out.methods.max
  have mle' := hy.out.methods.le
  have mmx' := hy.out.methods.max
  have ple := hx.out.applets.le
  have pmx := hx.out.applets.max
  have ple' := hy.out.applets.le
  have pmx' := hy.out.applets.max
  simp only at ile imx ile' imx' cle cmx cle' cmx' mle mmx mle' mmx' ple pmx ple' pmx'
  show Gives _ _ #[.agg #[.slice a1.a a1.xs.length a1.c, .int .i64 j1, .int .i64 n1, .slice ia is.length ic, .slice ca cs.length cc, .slice ma ms.length mc, .slice s1.a s1.xs.length s1.c, .slice pa ps.length pc], .agg #[.slice a2.a a2.xs.length a2.c, .int .i64 j2, .int .i64 n2, .slice ia' is'.length ic', .slice ca' cs'.length cc', .slice ma' ms'.length mc', .slice s2.a s2.xs.length s2.c, .slice pa' ps'.length pc']] _ _
  unfold Gives
  cases bA with
  | false =>
    go_enter Tryz.func19, Tryz.ntmps19
    go_wp2_with (first | (go_at_call 41; refine (hS.out _ END).go.mono ?_; rintro e w' ⟨rfl, xw, rfl⟩) | (go_at_call 16; refine (hA.out _ END).go.mono ?_; rintro e w' ⟨rfl, xw, rfl⟩) | fail)
    go_ret
    exact ⟨ret_bool (by simp), END⟩
  | true =>
  cases bS with
  | false =>
    go_enter Tryz.func19, Tryz.ntmps19
    go_wp2_with (first | (go_at_call 41; refine (hS.out _ END).go.mono ?_; rintro e w' ⟨rfl, xw, rfl⟩) | (go_at_call 16; refine (hA.out _ END).go.mono ?_; rintro e w' ⟨rfl, xw, rfl⟩) | fail)
    all_goals
      go_ret
      exact ⟨ret_bool (by simp), END⟩
  | true =>
  go_enter Tryz.func19, Tryz.ntmps19
  go_wp2_with (first | (go_at_call 41; refine (hS.out _ END).go.mono ?_; rintro e w' ⟨rfl, xw, rfl⟩) | (go_at_call 16; refine (hA.out _ END).go.mono ?_; rintro e w' ⟨rfl, xw, rfl⟩) | fail)
  all_goals try (go_ret; exact ⟨ret_bool (by first | (simp_all; done) | (rename_i hne; have hne := hid hne; rw [eqF_len (by simpa using hne.out)]; simp; done) | (simp_all; done) | grind [eqF_len]), END⟩; done)
  have E1 : j1 = j2 := by assumption
  have E2 : n1 = n2 := by assumption
  have HI := hid (show is.length = is'.length by have : (is.length : Int) = (is'.length : Int) := by assumption
                                                 omega)
  have HC := hid (show cs.length = cs'.length by have : (cs.length : Int) = (cs'.length : Int) := by assumption
                                                 omega)
  have HM := hid (show ms.length = ms'.length by have : (ms.length : Int) = (ms'.length : Int) := by assumption
                                                 omega)
  have HP := hid (show ps.length = ps'.length by have : ((ps.length : Int) != (ps'.length : Int)) = false := by assumption
                                                 simp at this
                                                 omega)
  subst E1 E2
  have hp0 : ((ps.length : Int) != (ps'.length : Int)) = false := by assumption
  rw [hp0]
  refine gen_w (fun V => Below w.heap.size w V ∧ w.heap.size + 1 < V.heap.size ∧ V.cell? ⟨w.heap.size, 3, none⟩ = some (.slice ia is.length ic) ∧ V.cell? ⟨w.heap.size + 1, 3, none⟩ = some (.slice ia' is'.length ic') ∧ V.cell? ⟨w.heap.size, 4, none⟩ = some (.slice ca cs.length cc) ∧ V.cell? ⟨w.heap.size + 1, 4, none⟩ = some (.slice ca' cs'.length cc') ∧ V.cell? ⟨w.heap.size, 5, none⟩ = some (.slice ma ms.length mc) ∧ V.cell? ⟨w.heap.size + 1, 5, none⟩ = some (.slice ma' ms'.length mc') ∧ V.cell? ⟨w.heap.size, 7, none⟩ = some (.slice pa ps.length pc) ∧ V.cell? ⟨w.heap.size + 1, 7, none⟩ = some (.slice pa' ps'.length pc')) ⟨END, InW.lt, by simp [Ext.cell, alloc_cell_in], by simp [Ext.cell], by simp [Ext.cell, alloc_cell_in], by simp [Ext.cell], by simp [Ext.cell, alloc_cell_in], by simp [Ext.cell], by simp [Ext.cell, alloc_cell_in], by simp [Ext.cell]⟩ ?_
  rintro V ⟨hwV, hV2, k3, k3x, k4, k4x, k5, k5x, k7, k7x⟩
  have hwV := hid hwV
  have hi1 : Hid ((⟨ia, ic, is⟩ : Sl Ip).Ok eIp 3 V) := hid (hx.out.imports.mono hwV.out)
  have hi2 : Hid ((⟨ia', ic', is'⟩ : Sl Ip).Ok eIp 3 V) := hid (hy.out.imports.mono hwV.out)
  have hc1 : Hid ((⟨ca, cc, cs⟩ : Sl Cl).Ok eCl 7 V) := hid (hx.out.classes.mono hwV.out)
  have hc2 : Hid ((⟨ca', cc', cs'⟩ : Sl Cl).Ok eCl 7 V) := hid (hy.out.classes.mono hwV.out)
  have hm1 : Hid ((⟨ma, mc, ms⟩ : Sl Me).Ok eMe 11 V) := hid (hx.out.methods.mono hwV.out)
  have hm2 : Hid ((⟨ma', mc', ms'⟩ : Sl Me).Ok eMe 11 V) := hid (hy.out.methods.mono hwV.out)
  have hp1 : Hid ((⟨pa, pc, ps⟩ : Sl Ap).Ok eAp 3 V) := hid (hx.out.applets.mono hwV.out)
  have hp2 : Hid ((⟨pa', pc', ps'⟩ : Sl Ap).Ok eAp 3 V) := hid (hy.out.applets.mono hwV.out)
  have hAA : w.heap.size < V.heap.size := by omega
  haveI : InW w.heap.size V := ⟨hAA⟩
  haveI : InW (w.heap.size + 1) V := ⟨hV2⟩
  clear hA hS hx hy
  go_loopw [5] (fun i wr => ∃ (k : Nat) (x : Ext V), k ≤ is.length ∧ i = .int .i64 k ∧ Hid (∀ (j : Nat) (u v : Ip), j < k → is[j]? = some u → is'[j]? = some v → ipEq u v = true) ∧ wr = x.val) (fun i _ => is.length - (intOf i).toNat)
  case atStart => exact ⟨0, ⟨V, Below.refl _ _⟩, Nat.zero_le _, rfl, hid (fun _ _ _ h => absurd h (by omega)), rfl⟩
  case round =>
    obtain ⟨k, x, hk, rfl, HZ, rfl⟩ := hrel
    by_cases hlt : k < is.length
    · obtain ⟨y, hy⟩ := getElem?_of_lt hlt
      have hlt2 : k < is'.length := by have := HI.out; omega
      obtain ⟨z, hzz⟩ := getElem?_of_lt hlt2
      obtain ⟨hok, b, off, hba, hbl, hc⟩ := hi1.out.at_ k y hy
      obtain ⟨hok', b', off', hba', hbl', hc'⟩ := hi2.out.at_ k z hzz
      simp only at hba hba'
      subst hba
      subst hba'
      have h0 := hc 0 _ rfl; have h1 := hc 1 _ rfl; have h2 := hc 2 _ rfl; simp only [Nat.add_zero] at h0
      have g0 := hc' 0 _ rfl; have g1 := hc' 1 _ rfl; have g2 := hc' 2 _ rfl; simp only [Nat.add_zero] at g0
      haveI : InW b V := ⟨hbl⟩
      haveI : InW b' V := ⟨hbl'⟩
      have HY := hid hy
      have HZZ := hid hzz
      have HO := hid hok
      have HO' := hid hok'
      clear hc hok hy hc' hok' hzz hbl'
      have hk1 : (0 : Int) ≤ (k : Int) := by omega
      have hk2 : (k : Int) < (is.length : Int) := by omega
      have hk3 : (k : Int) < (is'.length : Int) := by omega
      obtain ⟨⟨ya, yc, ys⟩, y1, y2⟩ := y
      obtain ⟨⟨za, zc, zs⟩, z1, z2⟩ := z
      simp only at h0 h1 h2 g0 g1 g2
      have hM : Hid (∀ W : World, Below V.heap.size V W → Gives Tryz.prog 16 #[.slice ya ys.length yc, .slice za zs.length zc] W (.bool (bEq ys zs))) := fun W h => rsame_any ⟨ya, yc, ys⟩ ⟨za, zc, zs⟩ W (HO.out.1.mono h) (HO'.out.1.mono h)
      have EM0 : Hid (ipEq ⟨⟨ya, yc, ys⟩, y1, y2⟩ ⟨⟨za, zc, zs⟩, z1, z2⟩ = (decide (y1 = z1) && (decide (y2 = z2) && bEq ys zs))) := rfl
      generalize bEq ys zs = bM at hM EM0
      go_wp2_with fail
      have e1 : x.val.cell? ⟨w.heap.size, 3, none⟩ = some (.slice (some ⟨b, off, none⟩) is.length ic) := by rw [Ext.cell]; assumption
      have e2 : x.val.cell? ⟨w.heap.size + 1, 3, none⟩ = some (.slice (some ⟨b', off', none⟩) is'.length ic') := by rw [Ext.cell]; assumption
      have e3 := (Ext.cell x b (off + k * 3)).trans h0
      have e4 := (Ext.cell x b (off + k * 3 + 1)).trans h1
      have e5 := (Ext.cell x b (off + k * 3 + 2)).trans h2
      have e6 := (Ext.cell x b' (off' + k * 3)).trans g0
      have e7 := (Ext.cell x b' (off' + k * 3 + 1)).trans g1
      have e8 := (Ext.cell x b' (off' + k * 3 + 2)).trans g2
      go_region_held3 (fun w' => ((w'.cell? ⟨w.heap.size, 3, none⟩ = some (.slice (some ⟨b, off, none⟩) is.length ic) ∧ w'.cell? ⟨w.heap.size + 1, 3, none⟩ = some (.slice (some ⟨b', off', none⟩) is'.length ic')) ∧ w'.cell? ⟨b, off + k * 3, none⟩ = some (.slice ya ys.length yc) ∧ w'.cell? ⟨b, off + k * 3 + 1, none⟩ = some (.int .i64 y1) ∧ w'.cell? ⟨b, off + k * 3 + 2, none⟩ = some (.int .i64 y2)) ∧ w'.cell? ⟨b', off' + k * 3, none⟩ = some (.slice za zs.length zc) ∧ w'.cell? ⟨b', off' + k * 3 + 1, none⟩ = some (.int .i64 z1) ∧ w'.cell? ⟨b', off' + k * 3 + 2, none⟩ = some (.int .i64 z2)) (first | exact ⟨⟨⟨e1, e2⟩, e3, e4, e5⟩, e6, e7, e8⟩ | (refine ⟨⟨⟨?_, ?_⟩, ?_, ?_, ?_⟩, ?_, ?_, ?_⟩ <;> simp [alloc_cell_in, e1, e2, e3, e4, e5, e6, e7, e8])) (first | fail "no")
      all_goals
        clear h0 h1 h2 g0 g1 g2 e1 e2 e3 e4 e5 e6 e7 e8
        go_wp2_with (first | (go_at_call 16; refine (hM.out _ END).go.mono ?_; rintro e w' ⟨rfl, xw, rfl⟩) | fail)
        all_goals first
          | (have EM := hid (EM0.out.trans (sp_false (by first | exact .inl (by assumption) | exact .inr (.inl (by assumption)) | exact .inr (.inr (by assumption)))))
             go_ret
             have hE := eqF_false HI.out HY.out HZZ.out EM.out
             exact ⟨ret_bool (by simp [hE]), (hwV.out.trans (Below.mono (show Below V.heap.size V _ from END) hwV.out.size))⟩)
          | (have EM := hid (EM0.out.trans (sp_true (by assumption) (by assumption) (by assumption)))
             have HZ2 : Hid (∀ (j : Nat) (u v : Ip), j < k + 1 → is[j]? = some u → is'[j]? = some v → ipEq u v = true) := hid (fun j u v hj hu hv => by
                 rcases Nat.lt_succ_iff_lt_or_eq.1 hj with h | rfl
                 · exact HZ.out j u v h hu hv
                 · have h1 := HY.out.symm.trans hu; have h2 := HZZ.out.symm.trans hv; cases h1; cases h2; exact EM.out)
             first
               | (refine ⟨?_, ?_⟩
                  · (repeat apply Exists.intro)
                    refine ⟨?_, rfl⟩
                    exact ⟨k + 1, ⟨_, END⟩, by omega, by go_num, HZ2, rfl⟩
                  · simp [intOf]; omega)
               | exact ⟨⟨k + 1, ⟨_, END⟩, by omega, by go_num, HZ2, rfl⟩, by simp [intOf]; omega⟩)
    · have EQ1 := hid (eqF_true (p := ipEq) HI.out fun j u v hu hv => HZ.out j u v (by have := (List.getElem?_eq_some_iff.1 hu).1; omega) hu hv)
      have hlt2 : ¬ k < is'.length := by have := HI.out; omega
      go_wp2_with fail
      have EQi := EQ1
      clear EQ1 hk hlt HZ
      go_loopw [8] (fun i wr => ∃ (k : Nat) (x : Ext V), k ≤ cs.length ∧ i = .int .i64 k ∧ Hid (∀ (j : Nat) (u v : Cl), j < k → cs[j]? = some u → cs'[j]? = some v → clEq u v = true) ∧ wr = x.val) (fun i _ => cs.length - (intOf i).toNat)
      case atStart => exact ⟨0, x, Nat.zero_le _, rfl, hid (fun _ _ _ h => absurd h (by omega)), rfl⟩
      case round =>
        obtain ⟨k, x, hk, rfl, HZ, rfl⟩ := hrel
        by_cases hlt : k < cs.length
        · obtain ⟨y, hy⟩ := getElem?_of_lt hlt
          have hlt2 : k < cs'.length := by have := HC.out; omega
          obtain ⟨z, hzz⟩ := getElem?_of_lt hlt2
          obtain ⟨hok, b, off, hba, hbl, hc⟩ := hc1.out.at_ k y hy
          obtain ⟨hok', b', off', hba', hbl', hc'⟩ := hc2.out.at_ k z hzz
          simp only at hba hba'
          subst hba
          subst hba'
          have h0 := hc 0 _ rfl; have h1 := hc 1 _ rfl; have h2 := hc 2 _ rfl; have h3 := hc 3 _ rfl; have h4 := hc 4 _ rfl; have h5 := hc 5 _ rfl; have h6 := hc 6 _ rfl; simp only [Nat.add_zero] at h0
          have g0 := hc' 0 _ rfl; have g1 := hc' 1 _ rfl; have g2 := hc' 2 _ rfl; have g3 := hc' 3 _ rfl; have g4 := hc' 4 _ rfl; have g5 := hc' 5 _ rfl; have g6 := hc' 6 _ rfl; simp only [Nat.add_zero] at g0
          haveI : InW b V := ⟨hbl⟩
          haveI : InW b' V := ⟨hbl'⟩
          have HY := hid hy
          have HZZ := hid hzz
          have HO := hid hok
          have HO' := hid hok'
          clear hc hok hy hc' hok' hzz hbl'
          have hk1 : (0 : Int) ≤ (k : Int) := by omega
          have hk2 : (k : Int) < (cs.length : Int) := by omega
          have hk3 : (k : Int) < (cs'.length : Int) := by omega
          have hM : Hid (∀ W : World, Below V.heap.size V W → Gives Tryz.prog 42 #[y.v, z.v] W (.bool (clEq y z))) := fun W h => rsameClass_any y z W (hid (eCl.mono h HO.out)) (hid (eCl.mono h HO'.out))
          obtain ⟨bM, ebM⟩ : ∃ bM, bM = clEq y z := ⟨_, rfl⟩
          rw [← ebM] at hM
          have EM := hid ebM.symm
          clear ebM
          cases bM with
          | true =>
            go_wp2_with fail
            refine wp_region_ext (by kernel_rfl) (by kernel_rfl) ?_; (repeat (go_big_quiet_step ((go_at_call 42; refine (hM.out _ END).at)))); refine wpQuiet_nil ?_; intro xw
            go_wp2_with fail
            go_roundw
            case rel => exact ⟨k + 1, ⟨_, END⟩, by omega, by go_num, hid (fun j u v hj hu hv => by
                rcases Nat.lt_succ_iff_lt_or_eq.1 hj with h | rfl
                · exact HZ.out j u v h hu hv
                · have h1 := HY.out.symm.trans hu; have h2 := HZZ.out.symm.trans hv; cases h1; cases h2; exact EM.out), rfl⟩
            case measure => simp [intOf]; omega
          | false =>
            go_wp2_with fail
            refine wp_region_ext (by kernel_rfl) (by kernel_rfl) ?_; (repeat (go_big_quiet_step ((go_at_call 42; refine (hM.out _ END).at)))); refine wpQuiet_nil ?_; intro xw
            go_wp2_with fail
            go_ret
            have hE := eqF_false HC.out HY.out HZZ.out EM.out
            exact ⟨ret_bool (by simp [hE]), (hwV.out.trans (Below.mono (show Below V.heap.size V _ from END) hwV.out.size))⟩
        · have EQ1 := hid (eqF_true (p := clEq) HC.out fun j u v hu hv => HZ.out j u v (by have := (List.getElem?_eq_some_iff.1 hu).1; omega) hu hv)
          have hlt2 : ¬ k < cs'.length := by have := HC.out; omega
          go_wp2_with fail
          have EQc := EQ1
          clear EQ1 hk hlt HZ
          go_loopw [9] (fun i wr => ∃ (k : Nat) (x : Ext V), k ≤ ms.length ∧ i = .int .i64 k ∧ Hid (∀ (j : Nat) (u v : Me), j < k → ms[j]? = some u → ms'[j]? = some v → meEq u v = true) ∧ wr = x.val) (fun i _ => ms.length - (intOf i).toNat)
          case atStart => exact ⟨0, x, Nat.zero_le _, rfl, hid (fun _ _ _ h => absurd h (by omega)), rfl⟩
          case round =>
            obtain ⟨k, x, hk, rfl, HZ, rfl⟩ := hrel
            by_cases hlt : k < ms.length
            · obtain ⟨y, hy⟩ := getElem?_of_lt hlt
              have hlt2 : k < ms'.length := by have := HM.out; omega
              obtain ⟨z, hzz⟩ := getElem?_of_lt hlt2
              obtain ⟨hok, b, off, hba, hbl, hc⟩ := hm1.out.at_ k y hy
              obtain ⟨hok', b', off', hba', hbl', hc'⟩ := hm2.out.at_ k z hzz
              simp only at hba hba'
              subst hba
              subst hba'
              have h0 := hc 0 _ rfl; have h1 := hc 1 _ rfl; have h2 := hc 2 _ rfl; have h3 := hc 3 _ rfl; have h4 := hc 4 _ rfl; have h5 := hc 5 _ rfl; have h6 := hc 6 _ rfl; have h7 := hc 7 _ rfl; have h8 := hc 8 _ rfl; have h9 := hc 9 _ rfl; have h10 := hc 10 _ rfl; simp only [Nat.add_zero] at h0
              have g0 := hc' 0 _ rfl; have g1 := hc' 1 _ rfl; have g2 := hc' 2 _ rfl; have g3 := hc' 3 _ rfl; have g4 := hc' 4 _ rfl; have g5 := hc' 5 _ rfl; have g6 := hc' 6 _ rfl; have g7 := hc' 7 _ rfl; have g8 := hc' 8 _ rfl; have g9 := hc' 9 _ rfl; have g10 := hc' 10 _ rfl; simp only [Nat.add_zero] at g0
              haveI : InW b V := ⟨hbl⟩
              haveI : InW b' V := ⟨hbl'⟩
              have HY := hid hy
              have HZZ := hid hzz
              have HO := hid hok
              have HO' := hid hok'
              clear hc hok hy hc' hok' hzz hbl'
              have hk1 : (0 : Int) ≤ (k : Int) := by omega
              have hk2 : (k : Int) < (ms.length : Int) := by omega
              have hk3 : (k : Int) < (ms'.length : Int) := by omega
              have hM : Hid (∀ W : World, Below V.heap.size V W → Gives Tryz.prog 43 #[y.v, z.v] W (.bool (meEq y z))) := fun W h => rsameMethod_any y z W (hid (eMe.mono h HO.out)) (hid (eMe.mono h HO'.out))
              obtain ⟨bM, ebM⟩ : ∃ bM, bM = meEq y z := ⟨_, rfl⟩
              rw [← ebM] at hM
              have EM := hid ebM.symm
              clear ebM
              cases bM with
              | true =>
                go_wp2_with fail
                refine wp_region_ext (by kernel_rfl) (by kernel_rfl) ?_; (repeat (go_big_quiet_step ((go_at_call 43; refine (hM.out _ END).at)))); refine wpQuiet_nil ?_; intro xw
                go_wp2_with fail
                go_roundw
                case rel => exact ⟨k + 1, ⟨_, END⟩, by omega, by go_num, hid (fun j u v hj hu hv => by
                    rcases Nat.lt_succ_iff_lt_or_eq.1 hj with h | rfl
                    · exact HZ.out j u v h hu hv
                    · have h1 := HY.out.symm.trans hu; have h2 := HZZ.out.symm.trans hv; cases h1; cases h2; exact EM.out), rfl⟩
                case measure => simp [intOf]; omega
              | false =>
                go_wp2_with fail
                refine wp_region_ext (by kernel_rfl) (by kernel_rfl) ?_; (repeat (go_big_quiet_step ((go_at_call 43; refine (hM.out _ END).at)))); refine wpQuiet_nil ?_; intro xw
                go_wp2_with fail
                go_ret
                have hE := eqF_false HM.out HY.out HZZ.out EM.out
                exact ⟨ret_bool (by simp [hE]), (hwV.out.trans (Below.mono (show Below V.heap.size V _ from END) hwV.out.size))⟩
            · have EQ1 := hid (eqF_true (p := meEq) HM.out fun j u v hu hv => HZ.out j u v (by have := (List.getElem?_eq_some_iff.1 hu).1; omega) hu hv)
              have hlt2 : ¬ k < ms'.length := by have := HM.out; omega
              go_wp2_with fail
              have EQm := EQ1
              clear EQ1 hk hlt HZ
              go_loopw [10] (fun i wr => ∃ (k : Nat) (x : Ext V), k ≤ ps.length ∧ i = .int .i64 k ∧ Hid (∀ (j : Nat) (u v : Ap), j < k → ps[j]? = some u → ps'[j]? = some v → apEq u v = true) ∧ wr = x.val) (fun i _ => ps.length - (intOf i).toNat)
              case atStart => exact ⟨0, x, Nat.zero_le _, rfl, hid (fun _ _ _ h => absurd h (by omega)), rfl⟩
              case round =>
                obtain ⟨k, x, hk, rfl, HZ, rfl⟩ := hrel
                by_cases hlt : k < ps.length
                · obtain ⟨y, hy⟩ := getElem?_of_lt hlt
                  have hlt2 : k < ps'.length := by have := HP.out; omega
                  obtain ⟨z, hzz⟩ := getElem?_of_lt hlt2
                  obtain ⟨hok, b, off, hba, hbl, hc⟩ := hp1.out.at_ k y hy
                  obtain ⟨hok', b', off', hba', hbl', hc'⟩ := hp2.out.at_ k z hzz
                  simp only at hba hba'
                  subst hba
                  subst hba'
                  have h0 := hc 0 _ rfl; have h1 := hc 1 _ rfl; have h2 := hc 2 _ rfl; simp only [Nat.add_zero] at h0
                  have g0 := hc' 0 _ rfl; have g1 := hc' 1 _ rfl; have g2 := hc' 2 _ rfl; simp only [Nat.add_zero] at g0
                  haveI : InW b V := ⟨hbl⟩
                  haveI : InW b' V := ⟨hbl'⟩
                  have HY := hid hy
                  have HZZ := hid hzz
                  have HO := hid hok
                  have HO' := hid hok'
                  clear hc hok hy hc' hok' hzz hbl'
                  have hk1 : (0 : Int) ≤ (k : Int) := by omega
                  have hk2 : (k : Int) < (ps.length : Int) := by omega
                  have hk3 : (k : Int) < (ps'.length : Int) := by omega
                  obtain ⟨⟨ya, yc, ys⟩, y1, y2⟩ := y
                  obtain ⟨⟨za, zc, zs⟩, z1, z2⟩ := z
                  simp only at h0 h1 h2 g0 g1 g2
                  have hM : Hid (∀ W : World, Below V.heap.size V W → Gives Tryz.prog 16 #[.slice ya ys.length yc, .slice za zs.length zc] W (.bool (bEq ys zs))) := fun W h => rsame_any ⟨ya, yc, ys⟩ ⟨za, zc, zs⟩ W (HO.out.1.mono h) (HO'.out.1.mono h)
                  have EM0 : Hid (apEq ⟨⟨ya, yc, ys⟩, y1, y2⟩ ⟨⟨za, zc, zs⟩, z1, z2⟩ = (decide (y1 = z1) && (decide (y2 = z2) && bEq ys zs))) := rfl
                  generalize bEq ys zs = bM at hM EM0
                  go_wp2_with fail
                  have e1 : x.val.cell? ⟨w.heap.size, 7, none⟩ = some (.slice (some ⟨b, off, none⟩) ps.length pc) := by rw [Ext.cell]; assumption
                  have e2 : x.val.cell? ⟨w.heap.size + 1, 7, none⟩ = some (.slice (some ⟨b', off', none⟩) ps'.length pc') := by rw [Ext.cell]; assumption
                  have e3 := (Ext.cell x b (off + k * 3)).trans h0
                  have e4 := (Ext.cell x b (off + k * 3 + 1)).trans h1
                  have e5 := (Ext.cell x b (off + k * 3 + 2)).trans h2
                  have e6 := (Ext.cell x b' (off' + k * 3)).trans g0
                  have e7 := (Ext.cell x b' (off' + k * 3 + 1)).trans g1
                  have e8 := (Ext.cell x b' (off' + k * 3 + 2)).trans g2
                  go_region_held3 (fun w' => ((w'.cell? ⟨w.heap.size, 7, none⟩ = some (.slice (some ⟨b, off, none⟩) ps.length pc) ∧ w'.cell? ⟨w.heap.size + 1, 7, none⟩ = some (.slice (some ⟨b', off', none⟩) ps'.length pc')) ∧ w'.cell? ⟨b, off + k * 3, none⟩ = some (.slice ya ys.length yc) ∧ w'.cell? ⟨b, off + k * 3 + 1, none⟩ = some (.int .i64 y1) ∧ w'.cell? ⟨b, off + k * 3 + 2, none⟩ = some (.int .i64 y2)) ∧ w'.cell? ⟨b', off' + k * 3, none⟩ = some (.slice za zs.length zc) ∧ w'.cell? ⟨b', off' + k * 3 + 1, none⟩ = some (.int .i64 z1) ∧ w'.cell? ⟨b', off' + k * 3 + 2, none⟩ = some (.int .i64 z2)) (first | exact ⟨⟨⟨e1, e2⟩, e3, e4, e5⟩, e6, e7, e8⟩ | (refine ⟨⟨⟨?_, ?_⟩, ?_, ?_, ?_⟩, ?_, ?_, ?_⟩ <;> simp [alloc_cell_in, e1, e2, e3, e4, e5, e6, e7, e8])) (first | fail "no")
                  all_goals
                    clear h0 h1 h2 g0 g1 g2 e1 e2 e3 e4 e5 e6 e7 e8
                    go_wp2_with (first | (go_at_call 16; refine (hM.out _ END).go.mono ?_; rintro e w' ⟨rfl, xw, rfl⟩) | fail)
                    all_goals first
                      | (have EM := hid (EM0.out.trans (sp_false (by first | exact .inl (by assumption) | exact .inr (.inl (by assumption)) | exact .inr (.inr (by assumption)))))
                         go_ret
                         have hE := eqF_false HP.out HY.out HZZ.out EM.out
                         exact ⟨ret_bool (by simp [hE]), (hwV.out.trans (Below.mono (show Below V.heap.size V _ from END) hwV.out.size))⟩)
                      | (have EM := hid (EM0.out.trans (sp_true (by assumption) (by assumption) (by assumption)))
                         have HZ2 : Hid (∀ (j : Nat) (u v : Ap), j < k + 1 → ps[j]? = some u → ps'[j]? = some v → apEq u v = true) := hid (fun j u v hj hu hv => by
                             rcases Nat.lt_succ_iff_lt_or_eq.1 hj with h | rfl
                             · exact HZ.out j u v h hu hv
                             · have h1 := HY.out.symm.trans hu; have h2 := HZZ.out.symm.trans hv; cases h1; cases h2; exact EM.out)
                         first
                           | (refine ⟨?_, ?_⟩
                              · (repeat apply Exists.intro)
                                refine ⟨?_, rfl⟩
                                exact ⟨k + 1, ⟨_, END⟩, by omega, by go_num, HZ2, rfl⟩
                              · simp [intOf]; omega)
                           | exact ⟨⟨k + 1, ⟨_, END⟩, by omega, by go_num, HZ2, rfl⟩, by simp [intOf]; omega⟩)
                · have EQ1 := hid (eqF_true (p := apEq) HP.out fun j u v hu hv => HZ.out j u v (by have := (List.getElem?_eq_some_iff.1 hu).1; omega) hu hv)
                  have hlt2 : ¬ k < ps'.length := by have := HP.out; omega
                  go_wp2_with fail
                  go_ret
                  exact ⟨ret_bool (by simp [EQi.out, EQc.out, EQm.out, EQ1.out]), (hwV.out.trans (Below.mono (show Below V.heap.size V _ from END) hwV.out.size))⟩
end Go.Proofs.YthagkijplklemaaGreatDoor
end
