/- The reference's checks: the virtual methods and the implementations of a class. The reference's checks: the implementations of a class. The reference's checks: the code of a method. -/
import Derived.Test.YthagkijplklemaaGreatDoorS09
section
namespace Go.Proofs.YthagkijplklemaaGreatDoor
open Go.ChangeShapes Go.WideShapes Go.ChangeAt Go.RowKit Go.Sc
set_option maxRecDepth 20000 in
set_option maxHeartbeats 4000000 in
theorem rvirtuals_any (p : Pk) (n : Nat) (x : Cl) (w : World) (hp : Hid (p.Ok w)) (hcl : Hid (p.classes.xs[n]? = some x)) : Gives Tryz.prog 63 #[p.v, .int .i64 n] w (.int .i64 (firstE (fun i m => virtE p n x i m) 0 x.virt.xs)) := by
  obtain ⟨F, hF⟩ : ∃ F : Nat → Int → Int, F = fun i m => virtE p n x i m := ⟨_, rfl⟩
  have hE : ∀ i m, F i m = if m = -1 then (if x.isI then 4 else 0) else if 0 ≤ m ∧ m < p.methods.xs.length then
    match p.methods.xs[m.toNat]? with
    | some me => if me.static = true ∨ me.cls ≠ n then 4 else if (x.virt.xs.take i).any (fun y => m == y) then 13 else 0
    | none => 0
    else 2 := by rw [hF]; intro i m; rfl
  rw [← hF]
  clear hF
  have ho1 := hp.out.methods
  obtain ⟨hok, b0, off0, hba0, hbl0, hc0⟩ := hp.out.classes.at_ n x hcl.out
  have hl2 := (List.getElem?_eq_some_iff.1 hcl.out).1
  have hle2 := hp.out.classes.le
  have hmx2 := hp.out.classes.max
  have hov := hok.virt
  obtain ⟨aid, mj, mn, im, ⟨ca, cc, cs⟩, ⟨ma, mc, ms⟩, st, ap⟩ := p
  obtain ⟨⟨sp, sc⟩, isI, ext, fields, ⟨va, vc, vs⟩, impls⟩ := x
  simp only at ho1 hE hba0 hl2 hle2 hmx2 hov ⊢
  subst hba0
  have q0 := hc0 0 _ rfl; have q1 := hc0 1 _ rfl; have q2 := hc0 2 _ rfl; have q3 := hc0 3 _ rfl; have q4 := hc0 4 _ rfl; have q5 := hc0 5 _ rfl; have q6 := hc0 6 _ rfl; simp only [Nat.add_zero] at q0
  haveI : InW b0 w := ⟨hbl0⟩
  have HE := hid hE
  have hle := hov.le
  have hmx := hov.max
  have mle := ho1.le
  have mmx := ho1.max
  simp only at hle hmx mle mmx
  have hn1 : (0 : Int) ≤ (n : Int) := by omega
  have hn2 : (n : Int) < (cs.length : Int) := by omega
  clear hp hE hc0 hok hcl hbl0
  show Gives _ _ #[.agg #[.slice aid.a aid.xs.length aid.c, .int .i64 mj, .int .i64 mn, .slice im.a im.xs.length im.c, .slice (some ⟨b0, off0, none⟩) cs.length cc, .slice ma ms.length mc, .slice st.a st.xs.length st.c, .slice ap.a ap.xs.length ap.c], .int .i64 n] _ _
  unfold Gives
  go_enter Tryz.func63, Tryz.ntmps63
  go_wp2_with fail
  refine gen_v (fun V => Below w.heap.size w V ∧ w.heap.size + 1 < V.heap.size ∧ V.cell? ⟨w.heap.size, 5, none⟩ = some (.slice ma ms.length mc) ∧ V.cell? ⟨w.heap.size + 1, 2, none⟩ = some (.bool isI) ∧ V.cell? ⟨w.heap.size + 1, 5, none⟩ = some (.slice va vs.length vc)) ⟨END, InW.lt, by simp, by simp, by simp⟩ ?_
  rintro V ⟨hwV, hV, k5, e2, e4⟩
  have HW := hid hwV
  have HM := hid (ho1.mono hwV)
  have HI := hid (hov.mono hwV)
  haveI : InW w.heap.size V := ⟨by omega⟩
  haveI : InW (w.heap.size + 1) V := ⟨hV⟩
  clear hwV ho1 hov q0 q1 q2 q3 q4 q5 q6
  go_loopw [6] (fun i wr => ∃ (k : Nat) (x : Ext V), k ≤ vs.length ∧ i = .int .i64 k ∧ Hid (∀ (j : Nat) (u : Int), j < k → vs[j]? = some u → F j u = 0) ∧ wr = x.val) (fun i _ => vs.length - (intOf i).toNat)
  case atStart => exact ⟨0, ⟨V, Below.refl _ _⟩, Nat.zero_le _, rfl, hid (fun _ _ h => absurd h (by omega)), rfl⟩
  case round =>
    obtain ⟨k, x, hk, rfl, HZ, rfl⟩ := hrel
    by_cases hlt : k < vs.length
    · obtain ⟨v, hy⟩ := getElem?_of_lt hlt
      obtain ⟨hok, b, off, hba, hbl, hc⟩ := HI.out.at_ k v hy
      simp only at hba
      subst hba
      have HY := hid hy
      have HFK := hid (HE.out k v)
      have h0 := hc 0 _ rfl; simp only [Nat.add_zero, Nat.mul_one] at h0
      haveI : InW b V := ⟨hbl⟩
      clear hc hok hy
      have hk1 : (0 : Int) ≤ (k : Int) := by omega
      have hk2 : (k : Int) < (vs.length : Int) := by omega
      by_cases hv : v = -1
      · subst hv
        have HFK := hid (HFK.out.trans (if_pos rfl))
        cases isI
        · go_wp2_with fail
          go_roundw
          case rel => exact ⟨k + 1, ⟨_, ENDX⟩, by omega, by go_num, hid (fun n u hn hu => by
              rcases Nat.lt_succ_iff_lt_or_eq.1 hn with h | rfl
              · exact HZ.out n u h hu
              · have h1 := HY.out.symm.trans hu; cases h1; exact HFK.out), rfl⟩
          case measure => simp [intOf]; omega
        · go_wp2_with fail
          (go_ret; exact ⟨ret_int (fe_some HZ.out HY.out (HFK.out) (by omega)), ((HW).out.trans (Below.mono (show Below V.heap.size V _ from ENDX) (by have := (HW).out.size; omega)))⟩)
      · have HFK := hid (HFK.out.trans (if_neg hv))
        have hv' : (v == -1) = false := by simp [hv]
        by_cases hb : 0 ≤ v ∧ v < ms.length
        · have HFK := hid (HFK.out.trans (if_pos hb))
          obtain ⟨vn, rfl⟩ := Int.eq_ofNat_of_zero_le hb.1
          obtain ⟨me, hme⟩ := getElem?_of_lt (show vn < ms.length by omega)
          have gB : Hid (∀ W : World, Gives Tryz.prog 65 #[.int .i64 (vn : Int), .int .i64 ms.length] W (.bool true)) := fun W => by
            have := rbelow_any (vn : Int) (ms.length : Int) W
            rwa [show below (vn : Int) (ms.length : Int) = true by unfold below; simp; omega] at this
          have HFK : Hid (F k vn = if me.static = true ∨ me.cls ≠ n then 4 else if (vs.take k).any (fun y => (vn : Int) == y) then 13 else 0) := by
            have := HFK.out
            rw [Int.toNat_natCast, hme] at this
            exact this
          obtain ⟨hok1, b1, off1, hba1, hbl1, hc1⟩ := HM.out.at_ vn me hme
          simp only at hba1
          subst hba1
          obtain ⟨s, ab, cl, pa, r, lo, sk, co, hs⟩ := me
          have g0 := hc1 0 _ rfl
          have g2 := hc1 2 _ rfl
          simp only [Nat.add_zero] at g0
          simp only at HFK
          haveI : InW b1 V := ⟨hbl1⟩
          clear hc1 hok1 hme
          have hm1 : (0 : Int) ≤ (vn : Int) := by omega
          have hm2 : (vn : Int) < (ms.length : Int) := by omega
          by_cases hsc : s = true ∨ cl ≠ n
          · have HF4 := hid (HFK.out.trans (if_pos hsc))
            clear HFK
            cases s
            · have hcn : (cl != (n : Int)) = true := by simp; rcases hsc with h | h <;> simp_all
              go_wp2_with (first | (go_at_call 65; refine (gB.out _).go.mono ?_; rintro e w' ⟨rfl, xw, rfl⟩) | fail)
              (go_ret; exact ⟨ret_int (fe_some HZ.out HY.out (HF4.out) (by omega)), ((HW).out.trans (Below.mono (show Below V.heap.size V _ from ENDX) (by have := (HW).out.size; omega)))⟩)
            · go_wp2_with (first | (go_at_call 65; refine (gB.out _).go.mono ?_; rintro e w' ⟨rfl, xw, rfl⟩) | fail)
              (go_ret; exact ⟨ret_int (fe_some HZ.out HY.out (HF4.out) (by omega)), ((HW).out.trans (Below.mono (show Below V.heap.size V _ from ENDX) (by have := (HW).out.size; omega)))⟩)
          · have HF5 := hid (HFK.out.trans (if_neg hsc))
            clear HFK
            simp only [not_or, ne_eq, Decidable.not_not, Bool.not_eq_true] at hsc
            obtain ⟨rfl, rfl⟩ := hsc
            go_wp2_with (first | (go_at_call 65; refine (gB.out _).go.mono ?_; rintro e w' ⟨rfl, xw, rfl⟩) | fail)
            go_loopw [8] (fun i wr => ∃ (j : Nat) (z : Ext V), j ≤ k ∧ i = .int .i64 j ∧ Hid (∀ (n : Nat) (u : Int), n < j → vs[n]? = some u → ((vn : Int) == u) = false) ∧ wr = z.val) (fun i _ => k - (intOf i).toNat)
            case atStart => exact ⟨0, ⟨_, ENDX⟩, Nat.zero_le _, rfl, hid (fun _ _ h => absurd h (by omega)), rfl⟩
            case round =>
              obtain ⟨j, z, hj, rfl, HZ2, rfl⟩ := hrel
              by_cases hjt : j < k
              · obtain ⟨u, hu⟩ := getElem?_of_lt (show j < vs.length by omega)
                obtain ⟨huk, b', off', hba', hbl', hcu⟩ := HI.out.at_ j u hu
                cases hba'
                have HU := hid hu
                have d0 := hcu 0 _ rfl; simp only [Nat.add_zero, Nat.mul_one] at d0
                have HJ := hid hjt
                clear hcu huk hu
                have hj1 : (0 : Int) ≤ (j : Int) := by omega
                have hj2 : (j : Int) < (vs.length : Int) := by omega
                have hj3 : (j : Int) < (k : Int) := by omega
                by_cases huv : u = (vn : Int)
                · have ES := hid (show ((vn : Int) == u) = true by simp [huv])
                  subst huv
                  go_wp2_with fail
                  go_ret
                  exact ⟨ret_int (fe_some HZ.out HY.out (by rw [HF5.out, any_take_hit HJ.out HU.out ES.out]; rfl) (by omega)), ((HW).out.trans (Below.mono (show Below V.heap.size V _ from ENDX) (by have := (HW).out.size; omega)))⟩
                · have ES := hid (show ((vn : Int) == u) = false by simp; omega)
                  have hne : (u == (vn : Int)) = false := by simp [huv]
                  go_wp2_with fail
                  go_roundw
                  case rel => exact ⟨j + 1, ⟨_, END⟩, by omega, by go_num, hid (fun n u hn hu => by
                      rcases Nat.lt_succ_iff_lt_or_eq.1 hn with h | rfl
                      · exact HZ2.out n u h hu
                      · have h1 := HU.out.symm.trans hu; cases h1; exact ES.out), rfl⟩
                  case measure => simp [intOf]; omega
              · have HX := hid (any_take_miss (k := k) (f := fun y : Int => (vn : Int) == y) (xs := vs) fun n u hn hu => HZ2.out n u (by omega) hu)
                go_wp2_with fail
                go_roundw
                case rel => exact ⟨k + 1, ⟨_, ENDX⟩, by omega, by go_num, hid (fun n u hn hu => by
                    rcases Nat.lt_succ_iff_lt_or_eq.1 hn with h | rfl
                    · exact HZ.out n u h hu
                    · have h1 := HY.out.symm.trans hu; cases h1; rw [HF5.out, HX.out]; rfl), rfl⟩
                case measure => simp [intOf]; omega
        · have HFK := hid (HFK.out.trans (if_neg hb))
          have gB : Hid (∀ W : World, Gives Tryz.prog 65 #[.int .i64 v, .int .i64 ms.length] W (.bool false)) := fun W => by
            have := rbelow_any v (ms.length : Int) W
            rwa [show below v (ms.length : Int) = false by unfold below; simp; omega] at this
          go_wp2_with (first | (go_at_call 65; refine (gB.out _).go.mono ?_; rintro e w' ⟨rfl, xw, rfl⟩) | fail)
          (go_ret; exact ⟨ret_int (fe_some HZ.out HY.out (HFK.out) (by omega)), ((HW).out.trans (Below.mono (show Below V.heap.size V _ from ENDX) (by have := (HW).out.size; omega)))⟩)
    · go_wp2_with fail
      go_ret
      exact ⟨ret_int (fe_none fun j u hu => HZ.out j u (by have := (List.getElem?_eq_some_iff.1 hu).1; omega) hu), ((HW).out.trans (Below.mono (show Below V.heap.size V _ from ENDX) (by have := (HW).out.size; omega)))⟩
end Go.Proofs.YthagkijplklemaaGreatDoor
end

section
namespace Go.Proofs.YthagkijplklemaaGreatDoor
open Go.ChangeShapes Go.WideShapes Go.ChangeAt Go.RowKit Go.Sc
theorem any_hit {α : Type} {f : α → Bool} {xs : List α} {k : Nat} {y : α} (hy : xs[k]? = some y) (h : f y = true) : xs.any f = true := by
  rw [List.any_eq_true]
  exact ⟨y, List.mem_of_getElem? hy, h⟩
theorem any_end {α : Type} {f : α → Bool} {xs : List α} (h : ∀ (j : Nat) (y : α), xs[j]? = some y → f y = false) : xs.any f = false := by
  rw [List.any_eq_false]
  intro y hy
  obtain ⟨j, hj⟩ := List.getElem?_of_mem hy
  simp [h j y hj]
/-- A block holds a package: its eight cells. -/
theorem pk_cells (w : World) (p : Pk) (t : TypeId) : ∀ i v, (#[.slice p.aid.a p.aid.xs.length p.aid.c, .int .i64 p.major, .int .i64 p.minor, .slice p.imports.a p.imports.xs.length p.imports.c, .slice p.classes.a p.classes.xs.length p.classes.c, .slice p.methods.a p.methods.xs.length p.methods.c, .slice p.statics.a p.statics.xs.length p.statics.c, .slice p.applets.a p.applets.xs.length p.applets.c] : Array Value)[i]? = some v → (w.alloc (.cells #[.slice p.aid.a p.aid.xs.length p.aid.c, .int .i64 p.major, .int .i64 p.minor, .slice p.imports.a p.imports.xs.length p.imports.c, .slice p.classes.a p.classes.xs.length p.classes.c, .slice p.methods.a p.methods.xs.length p.methods.c, .slice p.statics.a p.statics.xs.length p.statics.c, .slice p.applets.a p.applets.xs.length p.applets.c] t)).cell? ⟨w.heap.size, i, none⟩ = some v := fun i v h => by rw [World.cell?_alloc_new]; exact h
set_option maxRecDepth 20000 in
set_option maxHeartbeats 4000000 in
theorem rimpls_any (p : Pk) (x : Cl) (w : World) (hx : Hid (x.Ok w)) : Gives Tryz.prog 64 #[p.v, x.v] w (.int .i64 (firstE (implE p x) 0 x.impls.xs)) := by
  obtain ⟨F, hF⟩ : ∃ F : Nat → Im → Int, F = implE p x := ⟨_, rfl⟩
  obtain ⟨f, hf⟩ : ∃ f, f = inRange p.imports.xs.length p.classes.xs.length := ⟨_, rfl⟩
  have hE : ∀ k y, F k y = if f y.i then (if (x.impls.xs.take k).any (fun z => rfEq z.i y.i) then 13 else if 16 < y.ms.xs.length then 3 else if y.ms.xs.any (fun m => !below m 16) then 2 else 0) else 2 := by rw [hF, hf]; intro k y; rfl
  have gR : Hid (∀ (r : Rf) (W : World), Gives Tryz.prog 61 #[p.v, r.v] W (.bool (f r))) := fun r W => by rw [hf]; exact rInRange_any p r W
  rw [← hF]
  clear hF hf
  have hov := hx.out.impls
  obtain ⟨⟨sp, sc⟩, isI, ext, fields, virt, ⟨ia, ic, is⟩⟩ := x
  simp only at hE hov ⊢
  have HE := hid hE
  have hle := hov.le
  have hmx := hov.max
  simp only at hle hmx
  clear hx hE
  show Gives _ _ #[p.v, .agg #[.int .i64 sp, .int .i64 sc, .bool isI, .slice ext.a ext.xs.length ext.c, .slice fields.a fields.xs.length fields.c, .slice virt.a virt.xs.length virt.c, .slice ia is.length ic]] _ _
  unfold Gives
  go_enter Tryz.func64, Tryz.ntmps64
  go_wp2_with fail
  refine gen_v (fun V => Below w.heap.size w V ∧ w.heap.size + 1 < V.heap.size ∧ V.cell? ⟨w.heap.size + 1, 6, none⟩ = some (.slice ia is.length ic) ∧ (∀ i v, (#[.slice p.aid.a p.aid.xs.length p.aid.c, .int .i64 p.major, .int .i64 p.minor, .slice p.imports.a p.imports.xs.length p.imports.c, .slice p.classes.a p.classes.xs.length p.classes.c, .slice p.methods.a p.methods.xs.length p.methods.c, .slice p.statics.a p.statics.xs.length p.statics.c, .slice p.applets.a p.applets.xs.length p.applets.c] : Array Value)[i]? = some v → V.cell? ⟨w.heap.size, i, none⟩ = some v)) ⟨END, InW.lt, by simp, fun i v h => (alloc_cell_in _ _ _).trans (pk_cells w p _ i v h)⟩ ?_
  rintro V ⟨hwV, hV, e6, hc0⟩
  have HW := hid hwV
  have k0 := hc0 0 _ rfl
  have k1 := hc0 1 _ rfl
  have k2 := hc0 2 _ rfl
  have k3 := hc0 3 _ rfl
  have k4 := hc0 4 _ rfl
  have k5 := hc0 5 _ rfl
  have k6 := hc0 6 _ rfl
  have k7 := hc0 7 _ rfl
  have HI := hid (hov.mono hwV)
  haveI : InW w.heap.size V := ⟨by omega⟩
  haveI : InW (w.heap.size + 1) V := ⟨hV⟩
  clear hwV hov hc0
  go_loopw [5] (fun i wr => ∃ (k : Nat) (x : Ext V), k ≤ is.length ∧ i = .int .i64 k ∧ Hid (∀ (j : Nat) (u : Im), j < k → is[j]? = some u → F j u = 0) ∧ wr = x.val) (fun i _ => is.length - (intOf i).toNat)
  case atStart => exact ⟨0, ⟨V, Below.refl _ _⟩, Nat.zero_le _, rfl, hid (fun _ _ h => absurd h (by omega)), rfl⟩
  case round =>
    obtain ⟨k, x, hk, rfl, HZ, rfl⟩ := hrel
    by_cases hlt : k < is.length
    · obtain ⟨y, hy⟩ := getElem?_of_lt hlt
      obtain ⟨hok, b, off, hba, hbl, hc⟩ := HI.out.at_ k y hy
      simp only at hba
      subst hba
      have HY := hid hy
      have HFK := hid (HE.out k y)
      have HMS := hid hok.2.2
      obtain ⟨⟨y1, y2⟩, ⟨ma, mc, ms⟩⟩ := y
      have h0 := hc 0 _ rfl; have h1 := hc 1 _ rfl; have h2 := hc 2 _ rfl; simp only [Nat.add_zero] at h0
      simp only at h0 h1 h2 HFK HMS
      have mle := HMS.out.le
      have mmx := HMS.out.max
      simp only at mle mmx
      have gB := hid (fun W => gR.out ⟨y1, y2⟩ W)
      obtain ⟨c1, e1⟩ : ∃ b, f ⟨y1, y2⟩ = !b := ⟨!f ⟨y1, y2⟩, by simp⟩
      rw [e1] at gB HFK
      haveI : InW b V := ⟨hbl⟩
      clear hc hok hy e1
      have hk1 : (0 : Int) ≤ (k : Int) := by omega
      have hk2 : (k : Int) < (is.length : Int) := by omega
      cases c1 with
      | true =>
        go_wp2_with (first | (go_at_call 61; refine (gB.out _).go.mono ?_; rintro e w' ⟨rfl, xw, rfl⟩) | fail)
        (go_ret; exact ⟨ret_int (fe_some HZ.out HY.out (by rw [HFK.out]; rfl) (by omega)), ((HW).out.trans (Below.mono (show Below V.heap.size V _ from ENDX) (by have := (HW).out.size; omega)))⟩)
      | false =>
        have HF1 := hid (HFK.out.trans (if_pos rfl))
        clear HFK
        go_wp2_with (first | (go_at_call 61; refine (gB.out _).go.mono ?_; rintro e w' ⟨rfl, xw, rfl⟩) | fail)
        refine gen_v (fun V2 => Below V.heap.size V V2 ∧ x.val.heap.size < V2.heap.size ∧ V2.cell? ⟨x.val.heap.size, 0, none⟩ = some (.int .i64 y1) ∧ V2.cell? ⟨x.val.heap.size, 1, none⟩ = some (.int .i64 y2) ∧ V2.cell? ⟨x.val.heap.size, 2, none⟩ = some (.slice ma ms.length mc)) ⟨ENDX, InW.lt, by simp [Ext.cell], by simp [Ext.cell], by simp [Ext.cell]⟩ ?_
        rintro V2 ⟨hV2, hxl, j0, j1, j2⟩
        have HV2 := hid hV2
        have hvs := hV2.size
        haveI : InW (w.heap.size + 1) V2 := ⟨by omega⟩
        haveI : InW x.val.heap.size V2 := ⟨hxl⟩
        have e6' := (hV2.cell (p := ⟨w.heap.size + 1, 6, none⟩) hV).trans e6
        have hxs := x.size
        clear hV2 h0 h1 h2
        go_loopw [7] (fun i wr => ∃ (j : Nat) (z : Ext V2), j ≤ k ∧ i = .int .i64 j ∧ Hid (∀ (n : Nat) (u : Im), n < j → is[n]? = some u → rfEq u.i ⟨y1, y2⟩ = false) ∧ wr = z.val) (fun i _ => k - (intOf i).toNat)
        case atStart => exact ⟨0, ⟨V2, Below.refl _ _⟩, Nat.zero_le _, rfl, hid (fun _ _ h => absurd h (by omega)), rfl⟩
        case round =>
          obtain ⟨j, z, hj, rfl, HZ2, rfl⟩ := hrel
          by_cases hjt : j < k
          · obtain ⟨u, hu⟩ := getElem?_of_lt (show j < is.length by omega)
            obtain ⟨huk, b', off', hba', hbl', hcu⟩ := HI.out.at_ j u hu
            cases hba'
            have HU := hid hu
            obtain ⟨⟨u1, u2⟩, um⟩ := u
            have g0 := hcu 0 _ rfl; have g1 := hcu 1 _ rfl; have g2 := hcu 2 _ rfl; simp only [Nat.add_zero] at g0
            simp only at g0 g1 g2
            have HJ := hid hjt
            have c0 := (HV2.out.cell (p := ⟨b, off + j * 3, none⟩) hbl').trans g0
            have c1 := (HV2.out.cell (p := ⟨b, off + j * 3 + 1, none⟩) hbl').trans g1
            haveI : InW b V2 := ⟨Nat.lt_of_lt_of_le hbl' HV2.out.size⟩
            clear hcu huk hu g0 g1 g2
            have hj1 : (0 : Int) ≤ (j : Int) := by omega
            have hj2 : (j : Int) < (is.length : Int) := by omega
            have hj3 : (j : Int) < (k : Int) := by omega
            by_cases hR : u1 = y1 ∧ u2 = y2
            · obtain ⟨rfl, rfl⟩ := hR
              have ES := hid (show rfEq ⟨u1, u2⟩ ⟨u1, u2⟩ = true by simp [rfEq])
              go_wp2_with fail
              refine wp_region_ext (by kernel_rfl) (by kernel_rfl) ?_; (repeat (go_big_quiet_step (fail))); refine wpQuiet_nil ?_; intro xw
              go_wp2_with fail
              go_ret
              exact ⟨ret_int (fe_some HZ.out HY.out (by rw [HF1.out, any_take_hit HJ.out HU.out ES.out]; rfl) (by omega)), ((HW).out.trans (Below.mono (show Below V.heap.size V _ from ENDX) (by have := (HW).out.size; omega)))⟩
            · have ES := hid (show rfEq ⟨u1, u2⟩ ⟨y1, y2⟩ = false by
                simp only [rfEq]
                by_cases q1 : u1 = y1
                · by_cases q2 : u2 = y2
                  · exact absurd ⟨q1, q2⟩ hR
                  · simp [q2]
                · simp [q1])
              have hor : ¬ u1 = y1 ∨ (u1 = y1 ∧ ¬ u2 = y2) := by
                by_cases q1 : u1 = y1
                · exact .inr ⟨q1, fun q2 => hR ⟨q1, q2⟩⟩
                · exact .inl q1
              clear hR
              rcases hor with q | ⟨q0, q⟩
              all_goals
                go_wp2_with fail
                refine wp_region_ext (by kernel_rfl) (by kernel_rfl) ?_; (repeat (go_big_quiet_step (fail))); refine wpQuiet_nil ?_; intro xw
                go_wp2_with fail
                first
                  | exact ⟨⟨j + 1, ⟨_, END⟩, by omega, by go_num, hid (fun n u hn hu => by
                      rcases Nat.lt_succ_iff_lt_or_eq.1 hn with h | rfl
                      · exact HZ2.out n u h hu
                      · have h1 := HU.out.symm.trans hu; cases h1; exact ES.out), rfl⟩, by simp [intOf]; omega⟩
                  | (refine ⟨?_, ?_⟩
                     · (repeat apply Exists.intro)
                       refine ⟨?_, rfl⟩
                       exact ⟨j + 1, ⟨_, END⟩, by omega, by go_num, hid (fun n u hn hu => by
                         rcases Nat.lt_succ_iff_lt_or_eq.1 hn with h | rfl
                         · exact HZ2.out n u h hu
                         · have h1 := HU.out.symm.trans hu; cases h1; exact ES.out), rfl⟩
                     · simp [intOf]; omega)
          · have HX := hid (any_take_miss (k := k) (f := fun z : Im => rfEq z.i ⟨y1, y2⟩) (xs := is) fun n u hn hu => HZ2.out n u (by omega) hu)
            have HF2 : Hid (F k ⟨⟨y1, y2⟩, ⟨ma, mc, ms⟩⟩ = if 16 < ms.length then 3 else if ms.any (fun m => !below m 16) then 2 else 0) := hid (by rw [HF1.out, HX.out]; rfl)
            clear HF1 HX
            by_cases h16 : 16 < ms.length
            · have HF3 := hid (HF2.out.trans (if_pos h16))
              have h16' : (16 : Int) < (ms.length : Int) := by omega
              clear h16
              go_wp2_with fail
              (go_ret; exact ⟨ret_int (fe_some HZ.out HY.out (HF3.out) (by omega)), ((HW).out.trans (Below.mono (show Below V.heap.size V _ from ENDX) (by have := (HW).out.size; omega)))⟩)
            · have HF3 := hid (HF2.out.trans (if_neg h16))
              have h16' : ¬ (16 : Int) < (ms.length : Int) := by omega
              clear h16 HF2
              go_wp2_with fail
              go_loopw [8] (fun i wr => ∃ (j : Nat) (z : Ext V2), j ≤ ms.length ∧ i = .int .i64 j ∧ Hid (∀ (n : Nat) (u : Int), ms[n]? = some u → n < j → (!below u 16) = false) ∧ wr = z.val) (fun i _ => ms.length - (intOf i).toNat)
              case atStart => exact ⟨0, ⟨_, ENDX⟩, Nat.zero_le _, rfl, hid (fun _ _ _ h => absurd h (by omega)), rfl⟩
              case round =>
                obtain ⟨l, z2, hl, rfl, HZ3, rfl⟩ := hrel
                by_cases hlt3 : l < ms.length
                · obtain ⟨u, hu⟩ := getElem?_of_lt hlt3
                  obtain ⟨huk, b', off', hba', hbl', hcu⟩ := HMS.out.at_ l u hu
                  simp only at hba'
                  subst hba'
                  have HU := hid hu
                  have g0 := hcu 0 _ rfl; simp only [Nat.add_zero, Nat.mul_one] at g0
                  obtain ⟨bb, eb⟩ : ∃ b, below u 16 = !b := ⟨!below u 16, by simp⟩
                  have gS : Hid (∀ W : World, Gives Tryz.prog 65 #[.int .i64 u, .int .i64 16] W (.bool (!bb))) := fun W => by rw [← eb]; exact rbelow_any u 16 W
                  have ES : Hid ((!below u 16) = bb) := hid (by rw [eb]; simp)
                  have c0 := (HV2.out.cell (p := ⟨b', off' + l * 1, none⟩) (by simpa using hbl')).trans (by simpa using g0)
                  simp only [Nat.mul_one] at c0
                  haveI : InW b' V2 := ⟨Nat.lt_of_lt_of_le hbl' HV2.out.size⟩
                  clear eb hcu huk hu g0
                  have hl1 : (0 : Int) ≤ (l : Int) := by omega
                  have hl2 : (l : Int) < (ms.length : Int) := by omega
                  cases bb with
                  | true =>
                    go_wp2_with (first | (go_at_call 65; refine (gS.out _).go.mono ?_; rintro e w' ⟨rfl, xw, rfl⟩) | fail)
                    (go_ret; exact ⟨ret_int (fe_some HZ.out HY.out (by rw [HF3.out, any_hit (f := fun m : Int => !below m 16) HU.out ES.out]; rfl) (by omega)), ((HW).out.trans (Below.mono (show Below V.heap.size V _ from ENDX) (by have := (HW).out.size; omega)))⟩)
                  | false =>
                    go_wp2_with (first | (go_at_call 65; refine (gS.out _).go.mono ?_; rintro e w' ⟨rfl, xw, rfl⟩) | fail)
                    go_roundw
                    case rel => exact ⟨l + 1, ⟨_, END⟩, by omega, by go_num, hid (fun n u hu hn => by
                        rcases Nat.lt_succ_iff_lt_or_eq.1 hn with h | rfl
                        · exact HZ3.out n u hu h
                        · have h1 := HU.out.symm.trans hu; cases h1; exact ES.out), rfl⟩
                    case measure => simp [intOf]; omega
                · have HX := hid (any_end (f := fun m : Int => !below m 16) (xs := ms) fun n u hu => HZ3.out n u hu (by have := (List.getElem?_eq_some_iff.1 hu).1; omega))
                  go_wp2_with fail
                  go_roundw
                  case rel => exact ⟨k + 1, ⟨_, ENDX⟩, by omega, by go_num, hid (fun n u hn hu => by
                      rcases Nat.lt_succ_iff_lt_or_eq.1 hn with h | rfl
                      · exact HZ.out n u h hu
                      · have h1 := HY.out.symm.trans hu; cases h1; rw [HF3.out, HX.out]; rfl), rfl⟩
                  case measure => simp [intOf]; omega
    · go_wp2_with fail
      go_ret
      exact ⟨ret_int (fe_none fun j u hu => HZ.out j u (by have := (List.getElem?_eq_some_iff.1 hu).1; omega) hu), ((HW).out.trans (Below.mono (show Below V.heap.size V _ from ENDX) (by have := (HW).out.size; omega)))⟩
end Go.Proofs.YthagkijplklemaaGreatDoor
end

section
namespace Go.Proofs.YthagkijplklemaaGreatDoor
open Go.ChangeShapes Go.WideShapes Go.ChangeAt Go.RowKit Go.Sc
/-- What the reference says of the code of a method. -/
def codeE (p : Pk) (m : Me) : Int :=
  if m.locals < m.params.xs.length + (bif m.static then 0 else 1) ∨ 16 < m.locals ∨ m.stack < 0 ∨ 16 < m.stack then 2
  else if m.code.xs.length = 0 then 4
  else if 256 < m.code.xs.length ∨ 8 < m.hs.xs.length then 3
  else if firstE (fun _ i => instrE p m.code.xs.length i) 0 m.code.xs = 0 then firstE (fun _ h => hdE m.code.xs.length h) 0 m.hs.xs
  else firstE (fun _ i => instrE p m.code.xs.length i) 0 m.code.xs
set_option maxRecDepth 20000 in
set_option maxHeartbeats 8000000 in
theorem rcode_any (p : Pk) (m : Me) (w : World) (hm : Hid (m.Ok w)) (hpl : m.params.xs.length ≤ 1000) : Gives Tryz.prog 67 #[p.v, m.v] w (.int .i64 (codeE p m)) := by
  obtain ⟨A, hA⟩ : ∃ A : Int, A = (m.params.xs.length : Int) + (bif m.static then 0 else 1) := ⟨_, rfl⟩
  have gA : Hid (∀ W : World, Gives Tryz.prog 112 #[m.v] W (.int .i64 A)) := fun W => by rw [hA]; exact rargs_any m W (by omega)
  have gX : Hid (∀ (i : In) (W : World), insE i = 0 → Gives Tryz.prog 114 #[p.v, m.v, i.v] W (.bool (named p m.code.xs.length i))) := fun i W h => rexists_any p m i W h
  obtain ⟨F, hF⟩ : ∃ F : Nat → In → Int, F = fun _ i => instrE p m.code.xs.length i := ⟨_, rfl⟩
  obtain ⟨G, hG⟩ : ∃ G : Nat → Hd → Int, G = fun _ h => hdE m.code.xs.length h := ⟨_, rfl⟩
  obtain ⟨nm, hnm⟩ : ∃ f : In → Bool, f = named p m.code.xs.length := ⟨_, rfl⟩
  have hFE : ∀ k i, F k i = if insE i = 0 then (if nm i then 0 else 2) else insE i := fun k i => by rw [hF, hnm]; rfl
  have hGE : ∀ k h, G k h = if h.f < 0 ∨ h.t ≤ h.f ∨ (m.code.xs.length : Int) < h.t ∨ below h.g m.code.xs.length = false ∨ h.w < 0 ∨ 65535 < h.w then 2 else 0 := fun k h => by rw [hG]; rfl
  have hE : codeE p m = if m.locals < A ∨ 16 < m.locals ∨ m.stack < 0 ∨ 16 < m.stack then 2 else if m.code.xs.length = 0 then 4 else if 256 < m.code.xs.length ∨ 8 < m.hs.xs.length then 3 else if firstE F 0 m.code.xs = 0 then firstE G 0 m.hs.xs else firstE F 0 m.code.xs := by rw [hA, hF, hG]; rfl
  obtain ⟨R, hR⟩ : ∃ R, R = codeE p m := ⟨_, rfl⟩
  rw [← hR] at hE ⊢
  rw [← hnm] at gX
  clear hA hF hG hnm hR hpl
  have ho1 := hm.out.code
  have ho2 := hm.out.hs
  obtain ⟨ss, ab, cl, pa, r, lo, sk, ⟨ca, cc, cs⟩, ⟨da, dc, ds⟩⟩ := m
  simp only at ho1 ho2 hE hFE hGE gA gX
  have HE := hid hE
  have HFE := hid hFE
  have HGE := hid hGE
  have hle := ho1.le
  have hmx := ho1.max
  have hle2 := ho2.le
  have hmx2 := ho2.max
  simp only at hle hmx hle2 hmx2
  clear hm hE hFE hGE
  show Gives _ _ #[p.v, .agg #[.bool ss, .bool ab, .int .i64 cl, .slice pa.a pa.xs.length pa.c, .int .i64 r.k, .int .i64 r.c.p, .int .i64 r.c.c, .int .i64 lo, .int .i64 sk, .slice ca cs.length cc, .slice da ds.length dc]] _ _
  unfold Gives
  by_cases b1 : lo < A
  · have HB := hid (show lo < A ∨ 16 < lo ∨ sk < 0 ∨ 16 < sk from .inl b1)
    go_enter Tryz.func67, Tryz.ntmps67
    go_wp2_with fail
    refine wp_region_ext (by kernel_rfl) (by kernel_rfl) ?_
    (repeat (go_big_quiet_step ((go_at_call 112; refine (gA.out _).at))))
    refine wpQuiet_nil ?_
    intro xw
    go_wp2_with fail
    go_ret
    exact ⟨ret_int (by rw [HE.out, if_pos HB.out]), END⟩
  · have d1 : decide (lo < A) = false := by simp; omega
    by_cases b2 : 16 < lo
    · have HB := hid (show lo < A ∨ 16 < lo ∨ sk < 0 ∨ 16 < sk from .inr (.inl b2))
      clear b1
      go_enter Tryz.func67, Tryz.ntmps67
      go_wp2_with fail
      refine wp_region_ext (by kernel_rfl) (by kernel_rfl) ?_
      (repeat (go_big_quiet_step ((go_at_call 112; refine (gA.out _).at))))
      refine wpQuiet_nil ?_
      intro xw
      go_wp2_with fail
      go_ret
      exact ⟨ret_int (by rw [HE.out, if_pos HB.out]), END⟩
    · have d2 : decide (16 < lo) = false := by simp; omega
      by_cases b3 : sk < 0
      · have HB := hid (show lo < A ∨ 16 < lo ∨ sk < 0 ∨ 16 < sk from .inr (.inr (.inl b3)))
        clear b1 b2
        go_enter Tryz.func67, Tryz.ntmps67
        go_wp2_with fail
        refine wp_region_ext (by kernel_rfl) (by kernel_rfl) ?_
        (repeat (go_big_quiet_step ((go_at_call 112; refine (gA.out _).at))))
        refine wpQuiet_nil ?_
        intro xw
        go_wp2_with fail
        go_ret
        exact ⟨ret_int (by rw [HE.out, if_pos HB.out]), END⟩
      · have d3 : decide (sk < 0) = false := by simp; omega
        by_cases b4 : 16 < sk
        · have HB := hid (show lo < A ∨ 16 < lo ∨ sk < 0 ∨ 16 < sk from .inr (.inr (.inr b4)))
          clear b1 b2 b3
          go_enter Tryz.func67, Tryz.ntmps67
          go_wp2_with fail
          refine wp_region_ext (by kernel_rfl) (by kernel_rfl) ?_
          (repeat (go_big_quiet_step ((go_at_call 112; refine (gA.out _).at))))
          refine wpQuiet_nil ?_
          intro xw
          go_wp2_with fail
          go_ret
          exact ⟨ret_int (by rw [HE.out, if_pos HB.out]), END⟩
        · have d4 : decide (16 < sk) = false := by simp; omega
          have HB := hid (show ¬ (lo < A ∨ 16 < lo ∨ sk < 0 ∨ 16 < sk) by omega)
          clear b1 b2 b3 b4
          by_cases hz : cs.length = 0
          · have hz' : ((cs.length : Int) == 0) = true := by simp [hz]
            have HZ0 := hid hz
            clear hz
            go_enter Tryz.func67, Tryz.ntmps67
            go_wp2_with fail
            refine wp_region_ext (by kernel_rfl) (by kernel_rfl) ?_
            (repeat (go_big_quiet_step ((go_at_call 112; refine (gA.out _).at))))
            refine wpQuiet_nil ?_
            intro xw
            go_wp2_with fail
            go_ret
            exact ⟨ret_int (by rw [HE.out, if_neg HB.out, if_pos HZ0.out]), END⟩
          · have hz' : ((cs.length : Int) == 0) = false := by simp only [beq_eq_false_iff_ne, ne_eq]; omega
            have HZ0 := hid hz
            by_cases hl3 : 256 < cs.length ∨ 8 < ds.length
            · have HL3 := hid hl3
              go_enter Tryz.func67, Tryz.ntmps67
              go_wp2_with fail
              refine wp_region_ext (by kernel_rfl) (by kernel_rfl) ?_
              (repeat (go_big_quiet_step ((go_at_call 112; refine (gA.out _).at))))
              refine wpQuiet_nil ?_
              intro xw
              go_wp2_with fail
              all_goals first
                | (exfalso; omega)
                | (go_ret; exact ⟨ret_int (by rw [HE.out, if_neg HB.out, if_neg HZ0.out, if_pos HL3.out]), END⟩)
            have HT : Hid (R = if firstE F 0 cs = 0 then firstE G 0 ds else firstE F 0 cs) := hid (by rw [HE.out, if_neg HB.out, if_neg HZ0.out, if_neg hl3])
            have l1 : ¬ (256 : Int) < (cs.length : Int) := by omega
            have l2 : ¬ (8 : Int) < (ds.length : Int) := by omega
            clear hl3
            go_enter Tryz.func67, Tryz.ntmps67
            go_wp2_with fail
            refine wp_region_ext (by kernel_rfl) (by kernel_rfl) ?_
            (repeat (go_big_quiet_step ((go_at_call 112; refine (gA.out _).at))))
            refine wpQuiet_nil ?_
            intro xw
            go_wp2_with fail
            clear HE HB d1 d2 d3 d4 hz hz' HZ0
            refine gen_v (fun V => Below w.heap.size w V ∧ w.heap.size + 1 < V.heap.size ∧ (∀ i v, (#[.slice p.aid.a p.aid.xs.length p.aid.c, .int .i64 p.major, .int .i64 p.minor, .slice p.imports.a p.imports.xs.length p.imports.c, .slice p.classes.a p.classes.xs.length p.classes.c, .slice p.methods.a p.methods.xs.length p.methods.c, .slice p.statics.a p.statics.xs.length p.statics.c, .slice p.applets.a p.applets.xs.length p.applets.c] : Array Value)[i]? = some v → V.cell? ⟨w.heap.size, i, none⟩ = some v) ∧ (∀ i v, (#[.bool ss, .bool ab, .int .i64 cl, .slice pa.a pa.xs.length pa.c, .int .i64 r.k, .int .i64 r.c.p, .int .i64 r.c.c, .int .i64 lo, .int .i64 sk, .slice ca cs.length cc, .slice da ds.length dc] : Array Value)[i]? = some v → V.cell? ⟨w.heap.size + 1, i, none⟩ = some v)) ⟨END, InW.lt, ?_, ?_⟩ ?_
            · intro i v h
              simp only [Ext.cell, alloc_cell_in]
              exact pk_cells w p 29 i v h
            · intro i v h
              simp only [Ext.cell]
              have e : w.heap.size + 1 = (w.alloc (.cells #[.slice p.aid.a p.aid.xs.length p.aid.c, .int .i64 p.major, .int .i64 p.minor, .slice p.imports.a p.imports.xs.length p.imports.c, .slice p.classes.a p.classes.xs.length p.classes.c, .slice p.methods.a p.methods.xs.length p.methods.c, .slice p.statics.a p.statics.xs.length p.statics.c, .slice p.applets.a p.applets.xs.length p.applets.c] 29)).heap.size := by simp
              rw [e, World.cell?_alloc_new]
              exact h
            rintro V ⟨hwV, hV, hk0, hq0⟩
            have HW := hid hwV
            have k0 := hk0 0 _ rfl
            have k1 := hk0 1 _ rfl
            have k2 := hk0 2 _ rfl
            have k3 := hk0 3 _ rfl
            have k4 := hk0 4 _ rfl
            have k5 := hk0 5 _ rfl
            have k6 := hk0 6 _ rfl
            have k7 := hk0 7 _ rfl
            have q0 := hq0 0 _ rfl
            have q1 := hq0 1 _ rfl
            have q2 := hq0 2 _ rfl
            have q3 := hq0 3 _ rfl
            have q4 := hq0 4 _ rfl
            have q5 := hq0 5 _ rfl
            have q6 := hq0 6 _ rfl
            have q7 := hq0 7 _ rfl
            have q8 := hq0 8 _ rfl
            have q9 := hq0 9 _ rfl
            have q10 := hq0 10 _ rfl
            have HI := hid (ho1.mono hwV)
            have HJ := hid (ho2.mono hwV)
            haveI : InW w.heap.size V := ⟨by omega⟩
            haveI : InW (w.heap.size + 1) V := ⟨hV⟩
            clear hwV ho1 ho2 hk0 hq0 gA
            go_loopw [5] (fun i wr => ∃ (k : Nat) (x : Ext V), k ≤ cs.length ∧ i = .int .i64 k ∧ Hid (∀ (j : Nat) (u : In), j < k → cs[j]? = some u → F j u = 0) ∧ wr = x.val) (fun i _ => cs.length - (intOf i).toNat)
            case atStart => exact ⟨0, ⟨V, Below.refl _ _⟩, Nat.zero_le _, rfl, hid (fun _ _ h => absurd h (by omega)), rfl⟩
            case round =>
              obtain ⟨k, x, hk, rfl, HZ, rfl⟩ := hrel
              by_cases hlt : k < cs.length
              · obtain ⟨y, hy⟩ := getElem?_of_lt hlt
                obtain ⟨hok, b, off, hba, hbl, hc⟩ := HI.out.at_ k y hy
                simp only at hba
                subst hba
                have HY := hid hy
                have HFK := hid (HFE.out k y)
                have gC := hid (fun W => rcheck27_any y W)
                have gD := hid (fun (h : insE y = 0) W => gX.out y W h)
                obtain ⟨e, he⟩ : ∃ e, e = insE y := ⟨_, rfl⟩
                obtain ⟨nb, hnb⟩ : ∃ b, nm y = !b := ⟨!nm y, by simp⟩
                rw [← he] at gC gD HFK
                rw [hnb] at gD HFK
                obtain ⟨y1, y2, y3, y4⟩ := y
                have h0 := hc 0 _ rfl; have h1 := hc 1 _ rfl; have h2 := hc 2 _ rfl; have h3 := hc 3 _ rfl; simp only [Nat.add_zero] at h0
                simp only at h0 h1 h2 h3 gC gD
                haveI : InW b V := ⟨hbl⟩
                clear hc hok hy he hnb
                have hk1 : (0 : Int) ≤ (k : Int) := by omega
                have hk2 : (k : Int) < (cs.length : Int) := by omega
                by_cases hee : e = 0
                · subst hee
                  have gD2 := hid (gD.out rfl)
                  cases nb with
                  | true =>
                    go_wp2_with (first | (go_at_call 113; refine (gC.out _).go.mono ?_; rintro e w' ⟨rfl, xw, rfl⟩) | fail)
                    refine wp_region_ext (by kernel_rfl) (by kernel_rfl) ?_; (repeat (go_big_quiet_step ((go_at_call 114; refine (gD2.out _).at)))); refine wpQuiet_nil ?_; intro xw
                    go_wp2_with fail
                    go_ret
                    have hX := fe_some HZ.out HY.out (c := 2) (by rw [HFK.out]; rfl) (by omega)
                    exact ⟨ret_int (by rw [HT.out, ← hX]; rfl), ((HW).out.trans (Below.mono (show Below V.heap.size V _ from ENDX) (by have := (HW).out.size; omega)))⟩
                  | false =>
                    go_wp2_with (first | (go_at_call 113; refine (gC.out _).go.mono ?_; rintro e w' ⟨rfl, xw, rfl⟩) | fail)
                    refine wp_region_ext (by kernel_rfl) (by kernel_rfl) ?_; (repeat (go_big_quiet_step ((go_at_call 114; refine (gD2.out _).at)))); refine wpQuiet_nil ?_; intro xw
                    go_wp2_with fail
                    go_roundw
                    case rel => exact ⟨k + 1, ⟨_, ENDX⟩, by omega, by go_num, hid (fun n u hn hu => by
                        rcases Nat.lt_succ_iff_lt_or_eq.1 hn with h | rfl
                        · exact HZ.out n u h hu
                        · have h1 := HY.out.symm.trans hu; cases h1; rw [HFK.out]; rfl), rfl⟩
                    case measure => simp [intOf]; omega
                · have hne : (e != 0) = true := by simp [hee]
                  have HNE := hid hee
                  clear hee
                  go_wp2_with (first | (go_at_call 113; refine (gC.out _).go.mono ?_; rintro e w' ⟨rfl, xw, rfl⟩) | fail)
                  go_ret
                  have hX := fe_some HZ.out HY.out (c := e) (by rw [HFK.out, if_neg HNE.out]) HNE.out
                  exact ⟨ret_int (by rw [HT.out, ← hX, if_neg HNE.out]), ((HW).out.trans (Below.mono (show Below V.heap.size V _ from ENDX) (by have := (HW).out.size; omega)))⟩
              · have hX : firstE F 0 cs = 0 := (fe_none fun j u hu => HZ.out j u (by have := (List.getElem?_eq_some_iff.1 hu).1; omega) hu).symm
                have HT2 : Hid (R = firstE G 0 ds) := hid (by rw [HT.out, if_pos hX])
                clear HT hX HZ
                go_wp2_with fail
                go_loopw [7] (fun i wr => ∃ (k : Nat) (x : Ext V), k ≤ ds.length ∧ i = .int .i64 k ∧ Hid (∀ (j : Nat) (u : Hd), j < k → ds[j]? = some u → G j u = 0) ∧ wr = x.val) (fun i _ => ds.length - (intOf i).toNat)
                case atStart => exact ⟨0, x, Nat.zero_le _, rfl, hid (fun _ _ h => absurd h (by omega)), rfl⟩
                case round =>
                  clear hk hlt
                  obtain ⟨k, x, hk, rfl, HZ, rfl⟩ := hrel
                  by_cases hlt : k < ds.length
                  · obtain ⟨y, hy⟩ := getElem?_of_lt hlt
                    obtain ⟨hok, b, off, hba, hbl, hc⟩ := HJ.out.at_ k y hy
                    simp only at hba
                    subst hba
                    have HY := hid hy
                    have HFK := hid (HGE.out k y)
                    obtain ⟨y1, y2, y3, y4⟩ := y
                    have h0 := hc 0 _ rfl; have h1 := hc 1 _ rfl; have h2 := hc 2 _ rfl; have h3 := hc 3 _ rfl; simp only [Nat.add_zero] at h0
                    simp only at h0 h1 h2 h3 HFK
                    obtain ⟨nb, hnb⟩ : ∃ b, below y3 cs.length = !b := ⟨!below y3 cs.length, by simp⟩
                    have gB : Hid (∀ W : World, Gives Tryz.prog 65 #[.int .i64 y3, .int .i64 cs.length] W (.bool (!nb))) := fun W => by rw [← hnb]; exact rbelow_any _ _ W
                    rw [hnb] at HFK
                    haveI : InW b V := ⟨hbl⟩
                    clear hc hok hy hnb
                    have hk1 : (0 : Int) ≤ (k : Int) := by omega
                    have hk2 : (k : Int) < (ds.length : Int) := by omega
                    go_wp2_with (first | (go_at_call 65; refine (gB.out _).go.mono ?_; rintro e w' ⟨rfl, xw, rfl⟩) | fail)
                    all_goals first
                      | (have hX := fe_some HZ.out HY.out (c := 2) (by rw [HFK.out]; exact if_pos (by first | omega | (simp [*]; done))) (by omega)
                         go_ret
                         exact ⟨ret_int (by rw [HT2.out, ← hX]), ((HW).out.trans (Below.mono (show Below V.heap.size V _ from ENDX) (by have := (HW).out.size; omega)))⟩)
                      | (have hX : G k ⟨y1, y2, y3, y4⟩ = 0 := by
                           have tb : nb = false := by assumption
                           rw [HFK.out, tb]; exact if_neg (by simp; omega)
                         have HX := hid hX
                         exact ⟨⟨k + 1, ⟨_, ENDX⟩, by omega, by go_num, hid (fun n u hn hu => by
                            rcases Nat.lt_succ_iff_lt_or_eq.1 hn with h | rfl
                            · exact HZ.out n u h hu
                            · have h1 := HY.out.symm.trans hu; cases h1; exact HX.out), rfl⟩, by simp [intOf]; omega⟩)
                  · have hX : firstE G 0 ds = 0 := (fe_none fun j u hu => HZ.out j u (by have := (List.getElem?_eq_some_iff.1 hu).1; omega) hu).symm
                    have HX := hid hX
                    clear hX
                    go_wp2_with fail
                    go_ret
                    exact ⟨ret_int (by rw [HT2.out, HX.out]), ((HW).out.trans (Below.mono (show Below V.heap.size V _ from ENDX) (by have := (HW).out.size; omega)))⟩
end Go.Proofs.YthagkijplklemaaGreatDoor
end
