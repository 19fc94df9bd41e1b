/- The reference's checks: the code of a method. The reference's checks: a method. -/
import Derived.Test.YthagkijplklemaaGreatDoorM49
section
namespace Go.Proofs.YthagkijplklemaaGreatDoor
open Go.ChangeShapes Go.WideShapes Go.ChangeAt Go.RowKit Go.Sc
/-- What the reference says of the code of a method. -/
def codeE (p : Pk) (m : Me) : Int :=
  if m.locals < m.params.xs.length + (bif m.static then 0 else 1) ∨ 16 < m.locals ∨ m.stack < 0 ∨ 16 < m.stack then 2
  else if m.code.xs.length = 0 then 4
  else if 256 < m.code.xs.length ∨ 8 < m.hs.xs.length then 3
  else if firstE (fun _ i => instrE p m.code.xs.length i) 0 m.code.xs = 0 then firstE (fun _ h => hdE m.code.xs.length h) 0 m.hs.xs
  else firstE (fun _ i => instrE p m.code.xs.length i) 0 m.code.xs
set_option maxRecDepth 20000 in
set_option maxHeartbeats 8000000 in
theorem rcode_any (p : Pk) (m : Me) (w : World) (hm : Hid (m.Ok w)) (hpl : m.params.xs.length ≤ 1000) : Gives Tryz.prog 67 #[p.v, m.v] w (.int .i64 (codeE p m)) := by
  obtain ⟨A, hA⟩ : ∃ A : Int, A = (m.params.xs.length : Int) + (bif m.static then 0 else 1) := ⟨_, rfl⟩
  have gA : Hid (∀ W : World, Gives Tryz.prog 112 #[m.v] W (.int .i64 A)) := fun W => by rw [hA]; exact rargs_any m W (by omega)
  have gX : Hid (∀ (i : In) (W : World), insE i = 0 → Gives Tryz.prog 114 #[p.v, m.v, i.v] W (.bool (named p m.code.xs.length i))) := fun i W h => rexists_any p m i W h
  obtain ⟨F, hF⟩ : ∃ F : Nat → In → Int, F = fun _ i => instrE p m.code.xs.length i := ⟨_, rfl⟩
  obtain ⟨G, hG⟩ : ∃ G : Nat → Hd → Int, G = fun _ h => hdE m.code.xs.length h := ⟨_, rfl⟩
  obtain ⟨nm, hnm⟩ : ∃ f : In → Bool, f = named p m.code.xs.length := ⟨_, rfl⟩
  have hFE : ∀ k i, F k i = if insE i = 0 then (if nm i then 0 else 2) else insE i := fun k i => by rw [hF, hnm]; rfl
  have hGE : ∀ k h, G k h = if h.f < 0 ∨ h.t ≤ h.f ∨ (m.code.xs.length : Int) < h.t ∨ below h.g m.code.xs.length = false ∨ h.w < 0 ∨ 65535 < h.w then 2 else 0 := fun k h => by rw [hG]; rfl
  have hE : codeE p m = if m.locals < A ∨ 16 < m.locals ∨ m.stack < 0 ∨ 16 < m.stack then 2 else if m.code.xs.length = 0 then 4 else if 256 < m.code.xs.length ∨ 8 < m.hs.xs.length then 3 else if firstE F 0 m.code.xs = 0 then firstE G 0 m.hs.xs else firstE F 0 m.code.xs := by rw [hA, hF, hG]; rfl
  obtain ⟨R, hR⟩ : ∃ R, R = codeE p m := ⟨_, rfl⟩
  rw [← hR] at hE ⊢
  rw [← hnm] at gX
  clear hA hF hG hnm hR hpl
  have ho1 := hm.out.code
  have ho2 := hm.out.hs
  obtain ⟨ss, ab, cl, pa, r, lo, sk, ⟨ca, cc, cs⟩, ⟨da, dc, ds⟩⟩ := m
  simp only at ho1 ho2 hE hFE hGE gA gX
  have HE := hid hE
  have HFE := hid hFE
  have HGE := hid hGE
  have hle := ho1.le
  have hmx := ho1.max
  have hle2 := ho2.le
  have hmx2 := ho2.max
  simp only at hle hmx hle2 hmx2
  clear hm hE hFE hGE
  show Gives _ _ #[p.v, .agg #[.bool ss, .bool ab, .int .i64 cl, .slice pa.a pa.xs.length pa.c, .int .i64 r.k, .int .i64 r.c.p, .int .i64 r.c.c, .int .i64 lo, .int .i64 sk, .slice ca cs.length cc, .slice da ds.length dc]] _ _
  unfold Gives
  by_cases b1 : lo < A
  · have HB := hid (show lo < A ∨ 16 < lo ∨ sk < 0 ∨ 16 < sk from .inl b1)
    go_enter Tryz.func67, Tryz.ntmps67
    go_wp2_with fail
    refine wp_region_ext (by kernel_rfl) (by kernel_rfl) ?_
    (repeat (go_big_quiet_step ((go_at_call 112; refine (gA.out _).at))))
    refine wpQuiet_nil ?_
    intro xw
    go_wp2_with fail
    go_ret
    exact ⟨ret_int (by rw [HE.out, if_pos HB.out]), (by with_reducible repeat' (first | exact Below.refl _ _ | exact Nat.le_refl _ | refine Below.alloc ?_ ?_ _ | refine below_ext _ ?_ ?_ | refine Below.drew ?_ | refine Below.setCell ?_ ?_ _ | refine le_alloc ?_ | refine Ext.le_size _ ?_ | refine le_drew ?_ | refine le_setCell ?_))⟩
  · have d1 : decide (lo < A) = false := by simp; omega
    by_cases b2 : 16 < lo
    · have HB := hid (show lo < A ∨ 16 < lo ∨ sk < 0 ∨ 16 < sk from .inr (.inl b2))
      clear b1
      go_enter Tryz.func67, Tryz.ntmps67
      go_wp2_with fail
      refine wp_region_ext (by kernel_rfl) (by kernel_rfl) ?_
      (repeat (go_big_quiet_step ((go_at_call 112; refine (gA.out _).at))))
      refine wpQuiet_nil ?_
      intro xw
      go_wp2_with fail
      go_ret
      exact ⟨ret_int (by rw [HE.out, if_pos HB.out]), (by with_reducible repeat' (first | exact Below.refl _ _ | exact Nat.le_refl _ | refine Below.alloc ?_ ?_ _ | refine below_ext _ ?_ ?_ | refine Below.drew ?_ | refine Below.setCell ?_ ?_ _ | refine le_alloc ?_ | refine Ext.le_size _ ?_ | refine le_drew ?_ | refine le_setCell ?_))⟩
    · have d2 : decide (16 < lo) = false := by simp; omega
      by_cases b3 : sk < 0
      · have HB := hid (show lo < A ∨ 16 < lo ∨ sk < 0 ∨ 16 < sk from .inr (.inr (.inl b3)))
        clear b1 b2
        go_enter Tryz.func67, Tryz.ntmps67
        go_wp2_with fail
        refine wp_region_ext (by kernel_rfl) (by kernel_rfl) ?_
        (repeat (go_big_quiet_step ((go_at_call 112; refine (gA.out _).at))))
        refine wpQuiet_nil ?_
        intro xw
        go_wp2_with fail
        go_ret
        exact ⟨ret_int (by rw [HE.out, if_pos HB.out]), (by with_reducible repeat' (first | exact Below.refl _ _ | exact Nat.le_refl _ | refine Below.alloc ?_ ?_ _ | refine below_ext _ ?_ ?_ | refine Below.drew ?_ | refine Below.setCell ?_ ?_ _ | refine le_alloc ?_ | refine Ext.le_size _ ?_ | refine le_drew ?_ | refine le_setCell ?_))⟩
      · have d3 : decide (sk < 0) = false := by simp; omega
        by_cases b4 : 16 < sk
        · have HB := hid (show lo < A ∨ 16 < lo ∨ sk < 0 ∨ 16 < sk from .inr (.inr (.inr b4)))
          clear b1 b2 b3
          go_enter Tryz.func67, Tryz.ntmps67
          go_wp2_with fail
          refine wp_region_ext (by kernel_rfl) (by kernel_rfl) ?_
          (repeat (go_big_quiet_step ((go_at_call 112; refine (gA.out _).at))))
          refine wpQuiet_nil ?_
          intro xw
          go_wp2_with fail
          go_ret
          exact ⟨ret_int (by rw [HE.out, if_pos HB.out]), (by with_reducible repeat' (first | exact Below.refl _ _ | exact Nat.le_refl _ | refine Below.alloc ?_ ?_ _ | refine below_ext _ ?_ ?_ | refine Below.drew ?_ | refine Below.setCell ?_ ?_ _ | refine le_alloc ?_ | refine Ext.le_size _ ?_ | refine le_drew ?_ | refine le_setCell ?_))⟩
        · have d4 : decide (16 < sk) = false := by simp; omega
          have HB := hid (show ¬ (lo < A ∨ 16 < lo ∨ sk < 0 ∨ 16 < sk) by omega)
          clear b1 b2 b3 b4
          by_cases hz : cs.length = 0
          · have hz' : ((cs.length : Int) == 0) = true := by simp [hz]
            have HZ0 := hid hz
            clear hz
            go_enter Tryz.func67, Tryz.ntmps67
            go_wp2_with fail
            refine wp_region_ext (by kernel_rfl) (by kernel_rfl) ?_
            (repeat (go_big_quiet_step ((go_at_call 112; refine (gA.out _).at))))
            refine wpQuiet_nil ?_
            intro xw
            go_wp2_with fail
            go_ret
            exact ⟨ret_int (by rw [HE.out, if_neg HB.out, if_pos HZ0.out]), (by with_reducible repeat' (first | exact Below.refl _ _ | exact Nat.le_refl _ | refine Below.alloc ?_ ?_ _ | refine below_ext _ ?_ ?_ | refine Below.drew ?_ | refine Below.setCell ?_ ?_ _ | refine le_alloc ?_ | refine Ext.le_size _ ?_ | refine le_drew ?_ | refine le_setCell ?_))⟩
          · have hz' : ((cs.length : Int) == 0) = false := by simp only [beq_eq_false_iff_ne, ne_eq]; omega
            have HZ0 := hid hz
            by_cases hl3 : 256 < cs.length ∨ 8 < ds.length
            · have HL3 := hid hl3
              go_enter Tryz.func67, Tryz.ntmps67
              go_wp2_with fail
              refine wp_region_ext (by kernel_rfl) (by kernel_rfl) ?_
              (repeat (go_big_quiet_step ((go_at_call 112; refine (gA.out _).at))))
              refine wpQuiet_nil ?_
              intro xw
              go_wp2_with fail
              all_goals first
                | (exfalso; omega)
                | (go_ret; exact ⟨ret_int (by rw [HE.out, if_neg HB.out, if_neg HZ0.out, if_pos HL3.out]), (by with_reducible repeat' (first | exact Below.refl _ _ | exact Nat.le_refl _ | refine Below.alloc ?_ ?_ _ | refine below_ext _ ?_ ?_ | refine Below.drew ?_ | refine Below.setCell ?_ ?_ _ | refine le_alloc ?_ | refine Ext.le_size _ ?_ | refine le_drew ?_ | refine le_setCell ?_))⟩)
            have HT : Hid (R = if firstE F 0 cs = 0 then firstE G 0 ds else firstE F 0 cs) := hid (by rw [HE.out, if_neg HB.out, if_neg HZ0.out, if_neg hl3])
            have l1 : ¬ (256 : Int) < (cs.length : Int) := by omega
            have l2 : ¬ (8 : Int) < (ds.length : Int) := by omega
            clear hl3
            go_enter Tryz.func67, Tryz.ntmps67
            go_wp2_with fail
            refine wp_region_ext (by kernel_rfl) (by kernel_rfl) ?_
            (repeat (go_big_quiet_step ((go_at_call 112; refine (gA.out _).at))))
            refine wpQuiet_nil ?_
            intro xw
            go_wp2_with fail
            clear HE HB d1 d2 d3 d4 hz hz' HZ0
            refine gen_v (fun V => Below w.heap.size w V ∧ w.heap.size + 1 < V.heap.size ∧ (∀ i v, (#[.slice p.aid.a p.aid.xs.length p.aid.c, .int .i64 p.major, .int .i64 p.minor, .slice p.imports.a p.imports.xs.length p.imports.c, .slice p.classes.a p.classes.xs.length p.classes.c, .slice p.methods.a p.methods.xs.length p.methods.c, .slice p.statics.a p.statics.xs.length p.statics.c, .slice p.applets.a p.applets.xs.length p.applets.c] : Array Value)[i]? = some v → V.cell? ⟨w.heap.size, i, none⟩ = some v) ∧ (∀ i v, (#[.bool ss, .bool ab, .int .i64 cl, .slice pa.a pa.xs.length pa.c, .int .i64 r.k, .int .i64 r.c.p, .int .i64 r.c.c, .int .i64 lo, .int .i64 sk, .slice ca cs.length cc, .slice da ds.length dc] : Array Value)[i]? = some v → V.cell? ⟨w.heap.size + 1, i, none⟩ = some v)) ⟨(by with_reducible repeat' (first | exact Below.refl _ _ | exact Nat.le_refl _ | refine Below.alloc ?_ ?_ _ | refine below_ext _ ?_ ?_ | refine Below.drew ?_ | refine Below.setCell ?_ ?_ _ | refine le_alloc ?_ | refine Ext.le_size _ ?_ | refine le_drew ?_ | refine le_setCell ?_)), InW.lt, ?_, ?_⟩ ?_
            · intro i v h
              simp only [Ext.cell, alloc_cell_in]
              exact pk_cells w p 29 i v h
            · intro i v h
              simp only [Ext.cell]
              have e : w.heap.size + 1 = (w.alloc (.cells #[.slice p.aid.a p.aid.xs.length p.aid.c, .int .i64 p.major, .int .i64 p.minor, .slice p.imports.a p.imports.xs.length p.imports.c, .slice p.classes.a p.classes.xs.length p.classes.c, .slice p.methods.a p.methods.xs.length p.methods.c, .slice p.statics.a p.statics.xs.length p.statics.c, .slice p.applets.a p.applets.xs.length p.applets.c] 29)).heap.size := by simp
              rw [e, World.cell?_alloc_new]
              exact h
            rintro V ⟨hwV, hV, hk0, hq0⟩
            have HW := hid hwV
            have k0 := hk0 0 _ rfl
            have k1 := hk0 1 _ rfl
            have k2 := hk0 2 _ rfl
            have k3 := hk0 3 _ rfl
            have k4 := hk0 4 _ rfl
            have k5 := hk0 5 _ rfl
            have k6 := hk0 6 _ rfl
            have k7 := hk0 7 _ rfl
            have q0 := hq0 0 _ rfl
            have q1 := hq0 1 _ rfl
            have q2 := hq0 2 _ rfl
            have q3 := hq0 3 _ rfl
            have q4 := hq0 4 _ rfl
            have q5 := hq0 5 _ rfl
            have q6 := hq0 6 _ rfl
            have q7 := hq0 7 _ rfl
            have q8 := hq0 8 _ rfl
            have q9 := hq0 9 _ rfl
            have q10 := hq0 10 _ rfl
            have HI := hid (ho1.mono hwV)
            have HJ := hid (ho2.mono hwV)
            haveI : InW w.heap.size V := ⟨by omega⟩
            haveI : InW (w.heap.size + 1) V := ⟨hV⟩
            clear hwV ho1 ho2 hk0 hq0 gA
            go_loopw [5] (fun i wr => ∃ (k : Nat) (x : Ext V), k ≤ cs.length ∧ i = .int .i64 k ∧ Hid (∀ (j : Nat) (u : In), j < k → cs[j]? = some u → F j u = 0) ∧ wr = x.val) (fun i _ => cs.length - (intOf i).toNat)
            case atStart => exact ⟨0, ⟨V, Below.refl _ _⟩, Nat.zero_le _, rfl, hid (fun _ _ h => absurd h (by omega)), rfl⟩
            case round =>
              obtain ⟨k, x, hk, rfl, HZ, rfl⟩ := hrel
              by_cases hlt : k < cs.length
              · obtain ⟨y, hy⟩ := getElem?_of_lt hlt
                obtain ⟨hok, b, off, hba, hbl, hc⟩ := HI.out.at_ k y hy
                simp only at hba
                subst hba
                have HY := hid hy
                have HFK := hid (HFE.out k y)
                have gC := hid (fun W => rcheck27_any y W)
                have gD := hid (fun (h : insE y = 0) W => gX.out y W h)
                obtain ⟨e, he⟩ : ∃ e, e = insE y := ⟨_, rfl⟩
                obtain ⟨nb, hnb⟩ : ∃ b, nm y = !b := ⟨!nm y, by simp⟩
                rw [← he] at gC gD HFK
                rw [hnb] at gD HFK
                obtain ⟨y1, y2, y3, y4⟩ := y
                have h0 := hc 0 _ rfl; have h1 := hc 1 _ rfl; have h2 := hc 2 _ rfl; have h3 := hc 3 _ rfl; simp only [Nat.add_zero] at h0
                simp only at h0 h1 h2 h3 gC gD
                haveI : InW b V := ⟨hbl⟩
                clear hc hok hy he hnb
                have hk1 : (0 : Int) ≤ (k : Int) := by omega
                have hk2 : (k : Int) < (cs.length : Int) := by omega
                by_cases hee : e = 0
                · subst hee
                  have gD2 := hid (gD.out rfl)
                  cases nb with
                  | true =>
                    go_wp2_with (first | (go_at_call 113; refine (gC.out _).go.mono ?_; rintro e w' ⟨rfl, xw, rfl⟩) | fail)
                    refine wp_region_ext (by kernel_rfl) (by kernel_rfl) ?_; (repeat (go_big_quiet_step ((go_at_call 114; refine (gD2.out _).at)))); refine wpQuiet_nil ?_; intro xw
                    go_wp2_with fail
                    go_ret
                    have hX := fe_some HZ.out HY.out (c := 2) (by rw [HFK.out]; rfl) (by omega)
                    exact ⟨ret_int (by rw [HT.out, ← hX]; rfl), ((HW).out.trans (Below.mono (show Below V.heap.size V _ from (by (with_reducible repeat' (first | exact Hid.out (by assumption) | exact Below.refl _ _ | exact Nat.le_refl _ | refine Below.alloc ?_ ?_ _ | refine below_ext _ ?_ ?_ | refine Below.drew ?_ | refine Below.setCell ?_ ?_ _ | refine le_alloc ?_ | refine Ext.le_size _ ?_ | refine le_drew ?_ | refine le_setCell ?_)); (all_goals (first | omega | (simp; done) | (simp; omega))))) (by have := (HW).out.size; omega)))⟩
                  | false =>
                    go_wp2_with (first | (go_at_call 113; refine (gC.out _).go.mono ?_; rintro e w' ⟨rfl, xw, rfl⟩) | fail)
                    refine wp_region_ext (by kernel_rfl) (by kernel_rfl) ?_; (repeat (go_big_quiet_step ((go_at_call 114; refine (gD2.out _).at)))); refine wpQuiet_nil ?_; intro xw
                    go_wp2_with fail
                    go_roundw
                    case rel => exact ⟨k + 1, ⟨_, (by (with_reducible repeat' (first | exact Hid.out (by assumption) | exact Below.refl _ _ | exact Nat.le_refl _ | refine Below.alloc ?_ ?_ _ | refine below_ext _ ?_ ?_ | refine Below.drew ?_ | refine Below.setCell ?_ ?_ _ | refine le_alloc ?_ | refine Ext.le_size _ ?_ | refine le_drew ?_ | refine le_setCell ?_)); (all_goals (first | omega | (simp; done) | (simp; omega))))⟩, by omega, by go_num, hid (fun n u hn hu => by
                        rcases Nat.lt_succ_iff_lt_or_eq.1 hn with h | rfl
                        · exact HZ.out n u h hu
                        · have h1 := HY.out.symm.trans hu; cases h1; rw [HFK.out]; rfl), rfl⟩
                    case measure => simp [intOf]; omega
                · have hne : (e != 0) = true := by simp [hee]
                  have HNE := hid hee
                  clear hee
                  go_wp2_with (first | (go_at_call 113; refine (gC.out _).go.mono ?_; rintro e w' ⟨rfl, xw, rfl⟩) | fail)
                  go_ret
                  have hX := fe_some HZ.out HY.out (c := e) (by rw [HFK.out, if_neg HNE.out]) HNE.out
                  exact ⟨ret_int (by rw [HT.out, ← hX, if_neg HNE.out]), ((HW).out.trans (Below.mono (show Below V.heap.size V _ from (by (with_reducible repeat' (first | exact Hid.out (by assumption) | exact Below.refl _ _ | exact Nat.le_refl _ | refine Below.alloc ?_ ?_ _ | refine below_ext _ ?_ ?_ | refine Below.drew ?_ | refine Below.setCell ?_ ?_ _ | refine le_alloc ?_ | refine Ext.le_size _ ?_ | refine le_drew ?_ | refine le_setCell ?_)); (all_goals (first | omega | (simp; done) | (simp; omega))))) (by have := (HW).out.size; omega)))⟩
              · have hX : firstE F 0 cs = 0 := (fe_none fun j u hu => HZ.out j u (by have := (List.getElem?_eq_some_iff.1 hu).1; omega) hu).symm
                have HT2 : Hid (R = firstE G 0 ds) := hid (by rw [HT.out, if_pos hX])
                clear HT hX HZ
                go_wp2_with fail
                go_loopw [7] (fun i wr => ∃ (k : Nat) (x : Ext V), k ≤ ds.length ∧ i = .int .i64 k ∧ Hid (∀ (j : Nat) (u : Hd), j < k → ds[j]? = some u → G j u = 0) ∧ wr = x.val) (fun i _ => ds.length - (intOf i).toNat)
                case atStart => exact ⟨0, x, Nat.zero_le _, rfl, hid (fun _ _ h => absurd h (by omega)), rfl⟩
                case round =>
                  clear hk hlt
                  obtain ⟨k, x, hk, rfl, HZ, rfl⟩ := hrel
                  by_cases hlt : k < ds.length
                  · obtain ⟨y, hy⟩ := getElem?_of_lt hlt
                    obtain ⟨hok, b, off, hba, hbl, hc⟩ := HJ.out.at_ k y hy
                    simp only at hba
                    subst hba
                    have HY := hid hy
                    have HFK := hid (HGE.out k y)
                    obtain ⟨y1, y2, y3, y4⟩ := y
                    have h0 := hc 0 _ rfl; have h1 := hc 1 _ rfl; have h2 := hc 2 _ rfl; have h3 := hc 3 _ rfl; simp only [Nat.add_zero] at h0
                    simp only at h0 h1 h2 h3 HFK
                    obtain ⟨nb, hnb⟩ : ∃ b, below y3 cs.length = !b := ⟨!below y3 cs.length, by simp⟩
                    have gB : Hid (∀ W : World, Gives Tryz.prog 65 #[.int .i64 y3, .int .i64 cs.length] W (.bool (!nb))) := fun W => by rw [← hnb]; exact rbelow_any _ _ W
                    rw [hnb] at HFK
                    haveI : InW b V := ⟨hbl⟩
                    clear hc hok hy hnb
                    have hk1 : (0 : Int) ≤ (k : Int) := by omega
                    have hk2 : (k : Int) < (ds.length : Int) := by omega
                    go_wp2_with (first | (go_at_call 65; refine (gB.out _).go.mono ?_; rintro e w' ⟨rfl, xw, rfl⟩) | fail)
                    all_goals first
                      | (have hX := fe_some HZ.out HY.out (c := 2) (by rw [HFK.out]; exact if_pos (by first | omega | (simp [*]; done))) (by omega)
                         go_ret
                         exact ⟨ret_int (by rw [HT2.out, ← hX]), ((HW).out.trans (Below.mono (show Below V.heap.size V _ from (by (with_reducible repeat' (first | exact Hid.out (by assumption) | exact Below.refl _ _ | exact Nat.le_refl _ | refine Below.alloc ?_ ?_ _ | refine below_ext _ ?_ ?_ | refine Below.drew ?_ | refine Below.setCell ?_ ?_ _ | refine le_alloc ?_ | refine Ext.le_size _ ?_ | refine le_drew ?_ | refine le_setCell ?_)); (all_goals (first | omega | (simp; done) | (simp; omega))))) (by have := (HW).out.size; omega)))⟩)
                      | (have hX : G k ⟨y1, y2, y3, y4⟩ = 0 := by
                           have tb : nb = false := by assumption
                           rw [HFK.out, tb]; exact if_neg (by simp; omega)
                         have HX := hid hX
                         exact ⟨⟨k + 1, ⟨_, (by (with_reducible repeat' (first | exact Hid.out (by assumption) | exact Below.refl _ _ | exact Nat.le_refl _ | refine Below.alloc ?_ ?_ _ | refine below_ext _ ?_ ?_ | refine Below.drew ?_ | refine Below.setCell ?_ ?_ _ | refine le_alloc ?_ | refine Ext.le_size _ ?_ | refine le_drew ?_ | refine le_setCell ?_)); (all_goals (first | omega | (simp; done) | (simp; omega))))⟩, by omega, by go_num, hid (fun n u hn hu => by
                            rcases Nat.lt_succ_iff_lt_or_eq.1 hn with h | rfl
                            · exact HZ.out n u h hu
                            · have h1 := HY.out.symm.trans hu; cases h1; exact HX.out), rfl⟩, by simp [intOf]; omega⟩)
                  · have hX : firstE G 0 ds = 0 := (fe_none fun j u hu => HZ.out j u (by have := (List.getElem?_eq_some_iff.1 hu).1; omega) hu).symm
                    have HX := hid hX
                    clear hX
                    go_wp2_with fail
                    go_ret
                    exact ⟨ret_int (by rw [HT2.out, HX.out]), ((HW).out.trans (Below.mono (show Below V.heap.size V _ from (by (with_reducible repeat' (first | exact Hid.out (by assumption) | exact Below.refl _ _ | exact Nat.le_refl _ | refine Below.alloc ?_ ?_ _ | refine below_ext _ ?_ ?_ | refine Below.drew ?_ | refine Below.setCell ?_ ?_ _ | refine le_alloc ?_ | refine Ext.le_size _ ?_ | refine le_drew ?_ | refine le_setCell ?_)); (all_goals (first | omega | (simp; done) | (simp; omega))))) (by have := (HW).out.size; omega)))⟩
end Go.Proofs.YthagkijplklemaaGreatDoor
end

section
namespace Go.Proofs.YthagkijplklemaaGreatDoor
open Go.ChangeShapes Go.WideShapes Go.ChangeAt Go.RowKit Go.Sc
theorem metE_code (p : Pk) (m : Me) : metE p m = if (m.static = true ∧ ¬ m.cls = 0) ∨ (m.static = false ∧ below m.cls p.classes.xs.length = false) then 2
  else if 6 < m.params.xs.length then 3
  else if allUsable p m.params.xs = false ∨ ((¬ m.result.k = 0 ∨ ¬ m.result.c.p = 0 ∨ ¬ m.result.c.c = 0) ∧ usable p.imports.xs.length p.classes.xs.length ⟨m.result.k, ⟨m.result.c.p, m.result.c.c⟩⟩ = false) then 22
  else if ¬ m.abs = (!m.static && classI p m.cls) then 4
  else if m.abs = true then (if ¬ m.locals = 0 ∨ ¬ m.stack = 0 ∨ 0 < m.code.xs.length ∨ 0 < m.hs.xs.length then 4 else 0)
  else codeE p m := rfl
set_option maxRecDepth 20000 in
set_option maxHeartbeats 8000000 in
theorem kmethod_any (p : Pk) (m : Me) (w : World) (hp : Hid (p.Ok w)) (hm : Hid (m.Ok w)) : Gives Tryz.prog 32 #[p.v, m.v] w (.int .i64 (metE p m)) := by
  obtain ⟨nb, hnb⟩ : ∃ b, below m.cls p.classes.xs.length = !b := ⟨!below m.cls p.classes.xs.length, by simp⟩
  obtain ⟨u, hu⟩ : ∃ b, allUsable p m.params.xs = !b := ⟨!allUsable p m.params.xs, by simp⟩
  obtain ⟨ur, hur⟩ : ∃ b, usable p.imports.xs.length p.classes.xs.length m.result = !b := ⟨!usable p.imports.xs.length p.classes.xs.length m.result, by simp⟩
  obtain ⟨E, hE0⟩ : ∃ E, E = codeE p m := ⟨_, rfl⟩
  obtain ⟨cI, hcI⟩ : ∃ c, c = classI p m.cls := ⟨_, rfl⟩
  obtain ⟨si, hsi⟩ : ∃ i : Int, (m.static = true ∧ i = 1) ∨ (m.static = false ∧ i = 0) := by cases m.static; exact ⟨0, .inr ⟨rfl, rfl⟩⟩; exact ⟨1, .inl ⟨rfl, rfl⟩⟩
  obtain ⟨ai, hai⟩ : ∃ i : Int, (m.abs = true ∧ i = 1) ∨ (m.abs = false ∧ i = 0) := by cases m.abs; exact ⟨0, .inr ⟨rfl, rfl⟩⟩; exact ⟨1, .inl ⟨rfl, rfl⟩⟩
  obtain ⟨ni, hni⟩ : ∃ i : Int, (nb = true ∧ i = 1) ∨ (nb = false ∧ i = 0) := by cases nb; exact ⟨0, .inr ⟨rfl, rfl⟩⟩; exact ⟨1, .inl ⟨rfl, rfl⟩⟩
  obtain ⟨ui, hui⟩ : ∃ i : Int, (u = true ∧ i = 1) ∨ (u = false ∧ i = 0) := by cases u; exact ⟨0, .inr ⟨rfl, rfl⟩⟩; exact ⟨1, .inl ⟨rfl, rfl⟩⟩
  obtain ⟨ri, hri⟩ : ∃ i : Int, (ur = true ∧ i = 1) ∨ (ur = false ∧ i = 0) := by cases ur; exact ⟨0, .inr ⟨rfl, rfl⟩⟩; exact ⟨1, .inl ⟨rfl, rfl⟩⟩
  obtain ⟨ci, hci⟩ : ∃ i : Int, (cI = true ∧ i = 1) ∨ (cI = false ∧ i = 0) := by cases cI; exact ⟨0, .inr ⟨rfl, rfl⟩⟩; exact ⟨1, .inl ⟨rfl, rfl⟩⟩
  obtain ⟨zi, hzi⟩ : ∃ i : Int, (m.cls = 0 ∧ i = 0) ∨ (¬ m.cls = 0 ∧ i = 1) := by by_cases h : m.cls = 0; exact ⟨0, .inl ⟨h, rfl⟩⟩; exact ⟨1, .inr ⟨h, rfl⟩⟩
  obtain ⟨vi, hvi⟩ : ∃ i : Int, ((m.result.k = 0 ∧ m.result.c.p = 0 ∧ m.result.c.c = 0) ∧ i = 0) ∨ (¬ (m.result.k = 0 ∧ m.result.c.p = 0 ∧ m.result.c.c = 0) ∧ i = 1) := by by_cases h : m.result.k = 0 ∧ m.result.c.p = 0 ∧ m.result.c.c = 0; exact ⟨0, .inl ⟨h, rfl⟩⟩; exact ⟨1, .inr ⟨h, rfl⟩⟩
  have hE : metE p m = if (si = 1 ∧ zi = 1) ∨ (si = 0 ∧ ni = 1) then 2
      else if 6 < m.params.xs.length then 3
      else if ui = 1 ∨ (vi = 1 ∧ ri = 1) then 22
      else if ¬ ai = (if si = 0 then ci else 0) then 4
      else if ai = 1 then (if ¬ m.locals = 0 ∨ ¬ m.stack = 0 ∨ 0 < m.code.xs.length ∨ 0 < m.hs.xs.length then 4 else 0) else E := by
    have q1 : (m.static = true ∧ ¬ m.cls = 0) ∨ (m.static = false ∧ below m.cls p.classes.xs.length = false) ↔ (si = 1 ∧ zi = 1) ∨ (si = 0 ∧ ni = 1) := by
      rw [hnb]
      rcases hsi with ⟨a1, rfl⟩ | ⟨a1, rfl⟩ <;> rcases hni with ⟨a3, rfl⟩ | ⟨a3, rfl⟩ <;> rcases hzi with ⟨a7, rfl⟩ | ⟨a7, rfl⟩ <;> simp [a1, a3, a7]
    have q2 : allUsable p m.params.xs = false ∨ ((¬ m.result.k = 0 ∨ ¬ m.result.c.p = 0 ∨ ¬ m.result.c.c = 0) ∧ usable p.imports.xs.length p.classes.xs.length ⟨m.result.k, ⟨m.result.c.p, m.result.c.c⟩⟩ = false) ↔ ui = 1 ∨ (vi = 1 ∧ ri = 1) := by
      rw [hu, show usable p.imports.xs.length p.classes.xs.length ⟨m.result.k, ⟨m.result.c.p, m.result.c.c⟩⟩ = !ur from hur, show (¬ m.result.k = 0 ∨ ¬ m.result.c.p = 0 ∨ ¬ m.result.c.c = 0) ↔ ¬ (m.result.k = 0 ∧ m.result.c.p = 0 ∧ m.result.c.c = 0) by omega]
      rcases hui with ⟨a1, rfl⟩ | ⟨a1, rfl⟩ <;> rcases hri with ⟨a3, rfl⟩ | ⟨a3, rfl⟩ <;> rcases hvi with ⟨a7, rfl⟩ | ⟨a7, rfl⟩ <;> simp only [a1, a3, a7] <;> simp
    have q3 : (¬ m.abs = (!m.static && classI p m.cls)) ↔ (¬ ai = (if si = 0 then ci else 0)) := by
      rw [← hcI]
      rcases hsi with ⟨a1, rfl⟩ | ⟨a1, rfl⟩ <;> rcases hai with ⟨a3, rfl⟩ | ⟨a3, rfl⟩ <;> rcases hci with ⟨a7, rfl⟩ | ⟨a7, rfl⟩ <;> simp [a1, a3, a7]
    have q4 : m.abs = true ↔ ai = 1 := by rcases hai with ⟨a3, rfl⟩ | ⟨a3, rfl⟩ <;> simp [a3]
    rw [metE_code]
    simp only [q1, q2, q3, q4, hE0]
  have gB : Hid (∀ W : World, Gives Tryz.prog 65 #[.int .i64 m.cls, .int .i64 p.classes.xs.length] W (.bool (!nb))) := fun W => by rw [← hnb]; exact rbelow_any _ _ W
  have gU : Hid (∀ W : World, Below w.heap.size w W → Gives Tryz.prog 33 #[p.v, m.params.v] W (.bool (!u))) := fun W h => by rw [← hu]; exact rusableL_any p m.params W (hm.out.params.mono h)
  have gR : Hid (∀ W : World, Gives Tryz.prog 66 #[p.v, m.result.v] W (.bool (!ur))) := fun W => by rw [← hur]; exact rUsable_any p m.result W
  have gC : Hid (∀ W : World, Below w.heap.size w W → m.params.xs.length ≤ 1000 → Gives Tryz.prog 67 #[p.v, m.v] W (.int .i64 E)) := fun W h h2 => by rw [hE0]; exact rcode_any p m W (hid (eMe.mono h hm.out)) h2
  have hcls : nb = false → 0 ≤ m.cls ∧ m.cls < p.classes.xs.length := fun h => by rw [h] at hnb; unfold below at hnb; simp at hnb; omega
  obtain ⟨R, hR⟩ : ∃ R, R = metE p m := ⟨_, rfl⟩
  rw [← hR] at hE ⊢
  have HE := hid hE
  have hclo := hp.out.classes
  clear hnb hu hur hE0 hR hE hp hm
  obtain ⟨aid, mj, mn, im, ⟨ca, cc, cs⟩, me, st, ap⟩ := p
  obtain ⟨ss, ab, cl, pa, ⟨rk, rp, rc⟩, lo, sk, ⟨da, dc, ds⟩, ⟨ha, hc, hs⟩⟩ := m
  simp only at HE gB gU gR gC hcls hcI hclo hsi hai hzi hvi
  have hle := hclo.le
  have hmx := hclo.max
  simp only at hle hmx
  show Gives _ _ #[.agg #[.slice aid.a aid.xs.length aid.c, .int .i64 mj, .int .i64 mn, .slice im.a im.xs.length im.c, .slice ca cs.length cc, .slice me.a me.xs.length me.c, .slice st.a st.xs.length st.c, .slice ap.a ap.xs.length ap.c], .agg #[.bool ss, .bool ab, .int .i64 cl, .slice pa.a pa.xs.length pa.c, .int .i64 rk, .int .i64 rp, .int .i64 rc, .int .i64 lo, .int .i64 sk, .slice da ds.length dc, .slice ha hs.length hc]] _ _
  unfold Gives
  obtain ⟨rfl, fs⟩ | ⟨rfl, fs⟩ := hsi
  · clear hcls hclo hcI
    by_cases hz : cl = 0
    · have fz : zi = 0 := by omega
      clear hzi
      subst hz
      obtain ⟨rfl, fu⟩ | ⟨rfl, fu⟩ := hui
      · have FF := hid (And.intro fs (And.intro fz fu))
        go_enter Tryz.func32, Tryz.ntmps32
        go_wp2_with (first | (go_at_call 65; refine (gB.out _).go.mono ?_; rintro e w' ⟨rfl, xw, rfl⟩) | (go_at_call 33; refine (gU.out _ (by with_reducible repeat' (first | exact Below.refl _ _ | exact Nat.le_refl _ | refine Below.alloc ?_ ?_ _ | refine below_ext _ ?_ ?_ | refine Below.drew ?_ | refine Below.setCell ?_ ?_ _ | refine le_alloc ?_ | refine Ext.le_size _ ?_ | refine le_drew ?_ | refine le_setCell ?_))).go.mono ?_; rintro e w' ⟨rfl, xw, rfl⟩) | (go_at_call 66; refine (gR.out _).go.mono ?_; rintro e w' ⟨rfl, xw, rfl⟩) | (go_at_call 67; refine (gC.out _ (by with_reducible repeat' (first | exact Below.refl _ _ | exact Nat.le_refl _ | refine Below.alloc ?_ ?_ _ | refine below_ext _ ?_ ?_ | refine Below.drew ?_ | refine Below.setCell ?_ ?_ _ | refine le_alloc ?_ | refine Ext.le_size _ ?_ | refine le_drew ?_ | refine le_setCell ?_)) (by omega)).go.mono ?_; rintro e w' ⟨rfl, xw, rfl⟩) | fail)
        all_goals first
          | (exfalso; omega)
          | (go_ret; exact ⟨ret_int (by have ff := FF.out; rw [HE.out]; (repeat' split) <;> first | rfl | omega), (by with_reducible repeat' (first | exact Below.refl _ _ | exact Nat.le_refl _ | refine Below.alloc ?_ ?_ _ | refine below_ext _ ?_ ?_ | refine Below.drew ?_ | refine Below.setCell ?_ ?_ _ | refine le_alloc ?_ | refine Ext.le_size _ ?_ | refine le_drew ?_ | refine le_setCell ?_))⟩)
      · obtain ⟨rfl, fr⟩ | ⟨rfl, fr⟩ := hri
        · by_cases hv : rk = 0 ∧ rp = 0 ∧ rc = 0
          · have fv : vi = 0 := by omega
            clear hvi
            obtain ⟨rfl, rfl, rfl⟩ := hv
            obtain ⟨rfl, fa⟩ | ⟨rfl, fa⟩ := hai
            all_goals
              have FF := hid (And.intro fs (And.intro fz (And.intro fu (And.intro fr (And.intro fv fa)))))
              go_enter Tryz.func32, Tryz.ntmps32
              go_wp2_with (first | (go_at_call 65; refine (gB.out _).go.mono ?_; rintro e w' ⟨rfl, xw, rfl⟩) | (go_at_call 33; refine (gU.out _ (by with_reducible repeat' (first | exact Below.refl _ _ | exact Nat.le_refl _ | refine Below.alloc ?_ ?_ _ | refine below_ext _ ?_ ?_ | refine Below.drew ?_ | refine Below.setCell ?_ ?_ _ | refine le_alloc ?_ | refine Ext.le_size _ ?_ | refine le_drew ?_ | refine le_setCell ?_))).go.mono ?_; rintro e w' ⟨rfl, xw, rfl⟩) | (go_at_call 66; refine (gR.out _).go.mono ?_; rintro e w' ⟨rfl, xw, rfl⟩) | (go_at_call 67; refine (gC.out _ (by with_reducible repeat' (first | exact Below.refl _ _ | exact Nat.le_refl _ | refine Below.alloc ?_ ?_ _ | refine below_ext _ ?_ ?_ | refine Below.drew ?_ | refine Below.setCell ?_ ?_ _ | refine le_alloc ?_ | refine Ext.le_size _ ?_ | refine le_drew ?_ | refine le_setCell ?_)) (by omega)).go.mono ?_; rintro e w' ⟨rfl, xw, rfl⟩) | fail)
              all_goals first
                | (with_reducible refine wp_region_ext (by kernel_rfl) (by kernel_rfl) ?_
                   (repeat (go_big_quiet_step (fail)))
                   refine wpQuiet_nil ?_
                   intro xw
                   go_wp2_with (first | (go_at_call 65; refine (gB.out _).go.mono ?_; rintro e w' ⟨rfl, xw, rfl⟩) | (go_at_call 33; refine (gU.out _ (by with_reducible repeat' (first | exact Below.refl _ _ | exact Nat.le_refl _ | refine Below.alloc ?_ ?_ _ | refine below_ext _ ?_ ?_ | refine Below.drew ?_ | refine Below.setCell ?_ ?_ _ | refine le_alloc ?_ | refine Ext.le_size _ ?_ | refine le_drew ?_ | refine le_setCell ?_))).go.mono ?_; rintro e w' ⟨rfl, xw, rfl⟩) | (go_at_call 66; refine (gR.out _).go.mono ?_; rintro e w' ⟨rfl, xw, rfl⟩) | (go_at_call 67; refine (gC.out _ (by with_reducible repeat' (first | exact Below.refl _ _ | exact Nat.le_refl _ | refine Below.alloc ?_ ?_ _ | refine below_ext _ ?_ ?_ | refine Below.drew ?_ | refine Below.setCell ?_ ?_ _ | refine le_alloc ?_ | refine Ext.le_size _ ?_ | refine le_drew ?_ | refine le_setCell ?_)) (by omega)).go.mono ?_; rintro e w' ⟨rfl, xw, rfl⟩) | fail)
                   all_goals (go_ret; exact ⟨ret_int (by have ff := FF.out; rw [HE.out]; (repeat' split) <;> first | rfl | omega), (by with_reducible repeat' (first | exact Below.refl _ _ | exact Nat.le_refl _ | refine Below.alloc ?_ ?_ _ | refine below_ext _ ?_ ?_ | refine Below.drew ?_ | refine Below.setCell ?_ ?_ _ | refine le_alloc ?_ | refine Ext.le_size _ ?_ | refine le_drew ?_ | refine le_setCell ?_))⟩))
                | (go_ret; exact ⟨ret_int (by have ff := FF.out; rw [HE.out]; (repeat' split) <;> first | rfl | omega), (by with_reducible repeat' (first | exact Below.refl _ _ | exact Nat.le_refl _ | refine Below.alloc ?_ ?_ _ | refine below_ext _ ?_ ?_ | refine Below.drew ?_ | refine Below.setCell ?_ ?_ _ | refine le_alloc ?_ | refine Ext.le_size _ ?_ | refine le_drew ?_ | refine le_setCell ?_))⟩)
          · have fv : vi = 1 := by omega
            clear hvi
            have FF := hid (And.intro fs (And.intro fz (And.intro fu (And.intro fr fv))))
            go_enter Tryz.func32, Tryz.ntmps32
            go_wp2_with (first | (go_at_call 65; refine (gB.out _).go.mono ?_; rintro e w' ⟨rfl, xw, rfl⟩) | (go_at_call 33; refine (gU.out _ (by with_reducible repeat' (first | exact Below.refl _ _ | exact Nat.le_refl _ | refine Below.alloc ?_ ?_ _ | refine below_ext _ ?_ ?_ | refine Below.drew ?_ | refine Below.setCell ?_ ?_ _ | refine le_alloc ?_ | refine Ext.le_size _ ?_ | refine le_drew ?_ | refine le_setCell ?_))).go.mono ?_; rintro e w' ⟨rfl, xw, rfl⟩) | (go_at_call 66; refine (gR.out _).go.mono ?_; rintro e w' ⟨rfl, xw, rfl⟩) | (go_at_call 67; refine (gC.out _ (by with_reducible repeat' (first | exact Below.refl _ _ | exact Nat.le_refl _ | refine Below.alloc ?_ ?_ _ | refine below_ext _ ?_ ?_ | refine Below.drew ?_ | refine Below.setCell ?_ ?_ _ | refine le_alloc ?_ | refine Ext.le_size _ ?_ | refine le_drew ?_ | refine le_setCell ?_)) (by omega)).go.mono ?_; rintro e w' ⟨rfl, xw, rfl⟩) | fail)
            all_goals first
              | (exfalso; omega)
              | (go_ret; exact ⟨ret_int (by have ff := FF.out; rw [HE.out]; (repeat' split) <;> first | rfl | omega), (by with_reducible repeat' (first | exact Below.refl _ _ | exact Nat.le_refl _ | refine Below.alloc ?_ ?_ _ | refine below_ext _ ?_ ?_ | refine Below.drew ?_ | refine Below.setCell ?_ ?_ _ | refine le_alloc ?_ | refine Ext.le_size _ ?_ | refine le_drew ?_ | refine le_setCell ?_))⟩)
        · clear hvi
          obtain ⟨rfl, fa⟩ | ⟨rfl, fa⟩ := hai
          all_goals
            have FF := hid (And.intro fs (And.intro fz (And.intro fu (And.intro fr fa))))
            go_enter Tryz.func32, Tryz.ntmps32
            go_wp2_with (first | (go_at_call 65; refine (gB.out _).go.mono ?_; rintro e w' ⟨rfl, xw, rfl⟩) | (go_at_call 33; refine (gU.out _ (by with_reducible repeat' (first | exact Below.refl _ _ | exact Nat.le_refl _ | refine Below.alloc ?_ ?_ _ | refine below_ext _ ?_ ?_ | refine Below.drew ?_ | refine Below.setCell ?_ ?_ _ | refine le_alloc ?_ | refine Ext.le_size _ ?_ | refine le_drew ?_ | refine le_setCell ?_))).go.mono ?_; rintro e w' ⟨rfl, xw, rfl⟩) | (go_at_call 66; refine (gR.out _).go.mono ?_; rintro e w' ⟨rfl, xw, rfl⟩) | (go_at_call 67; refine (gC.out _ (by with_reducible repeat' (first | exact Below.refl _ _ | exact Nat.le_refl _ | refine Below.alloc ?_ ?_ _ | refine below_ext _ ?_ ?_ | refine Below.drew ?_ | refine Below.setCell ?_ ?_ _ | refine le_alloc ?_ | refine Ext.le_size _ ?_ | refine le_drew ?_ | refine le_setCell ?_)) (by omega)).go.mono ?_; rintro e w' ⟨rfl, xw, rfl⟩) | fail)
            all_goals first
              | (with_reducible refine wp_region_ext (by kernel_rfl) (by kernel_rfl) ?_
                 (repeat (go_big_quiet_step (fail)))
                 refine wpQuiet_nil ?_
                 intro xw
                 go_wp2_with (first | (go_at_call 65; refine (gB.out _).go.mono ?_; rintro e w' ⟨rfl, xw, rfl⟩) | (go_at_call 33; refine (gU.out _ (by with_reducible repeat' (first | exact Below.refl _ _ | exact Nat.le_refl _ | refine Below.alloc ?_ ?_ _ | refine below_ext _ ?_ ?_ | refine Below.drew ?_ | refine Below.setCell ?_ ?_ _ | refine le_alloc ?_ | refine Ext.le_size _ ?_ | refine le_drew ?_ | refine le_setCell ?_))).go.mono ?_; rintro e w' ⟨rfl, xw, rfl⟩) | (go_at_call 66; refine (gR.out _).go.mono ?_; rintro e w' ⟨rfl, xw, rfl⟩) | (go_at_call 67; refine (gC.out _ (by with_reducible repeat' (first | exact Below.refl _ _ | exact Nat.le_refl _ | refine Below.alloc ?_ ?_ _ | refine below_ext _ ?_ ?_ | refine Below.drew ?_ | refine Below.setCell ?_ ?_ _ | refine le_alloc ?_ | refine Ext.le_size _ ?_ | refine le_drew ?_ | refine le_setCell ?_)) (by omega)).go.mono ?_; rintro e w' ⟨rfl, xw, rfl⟩) | fail)
                 all_goals (go_ret; exact ⟨ret_int (by have ff := FF.out; rw [HE.out]; (repeat' split) <;> first | rfl | omega), (by with_reducible repeat' (first | exact Below.refl _ _ | exact Nat.le_refl _ | refine Below.alloc ?_ ?_ _ | refine below_ext _ ?_ ?_ | refine Below.drew ?_ | refine Below.setCell ?_ ?_ _ | refine le_alloc ?_ | refine Ext.le_size _ ?_ | refine le_drew ?_ | refine le_setCell ?_))⟩))
              | (go_ret; exact ⟨ret_int (by have ff := FF.out; rw [HE.out]; (repeat' split) <;> first | rfl | omega), (by with_reducible repeat' (first | exact Below.refl _ _ | exact Nat.le_refl _ | refine Below.alloc ?_ ?_ _ | refine below_ext _ ?_ ?_ | refine Below.drew ?_ | refine Below.setCell ?_ ?_ _ | refine le_alloc ?_ | refine Ext.le_size _ ?_ | refine le_drew ?_ | refine le_setCell ?_))⟩)
    · have fz : zi = 1 := by omega
      clear hzi
      have FF := hid (And.intro fs fz)
      go_enter Tryz.func32, Tryz.ntmps32
      go_wp2_with (first | (go_at_call 65; refine (gB.out _).go.mono ?_; rintro e w' ⟨rfl, xw, rfl⟩) | (go_at_call 33; refine (gU.out _ (by with_reducible repeat' (first | exact Below.refl _ _ | exact Nat.le_refl _ | refine Below.alloc ?_ ?_ _ | refine below_ext _ ?_ ?_ | refine Below.drew ?_ | refine Below.setCell ?_ ?_ _ | refine le_alloc ?_ | refine Ext.le_size _ ?_ | refine le_drew ?_ | refine le_setCell ?_))).go.mono ?_; rintro e w' ⟨rfl, xw, rfl⟩) | (go_at_call 66; refine (gR.out _).go.mono ?_; rintro e w' ⟨rfl, xw, rfl⟩) | (go_at_call 67; refine (gC.out _ (by with_reducible repeat' (first | exact Below.refl _ _ | exact Nat.le_refl _ | refine Below.alloc ?_ ?_ _ | refine below_ext _ ?_ ?_ | refine Below.drew ?_ | refine Below.setCell ?_ ?_ _ | refine le_alloc ?_ | refine Ext.le_size _ ?_ | refine le_drew ?_ | refine le_setCell ?_)) (by omega)).go.mono ?_; rintro e w' ⟨rfl, xw, rfl⟩) | fail)
      all_goals first
        | (exfalso; omega)
        | (go_ret; exact ⟨ret_int (by have ff := FF.out; rw [HE.out]; (repeat' split) <;> first | rfl | omega), (by with_reducible repeat' (first | exact Below.refl _ _ | exact Nat.le_refl _ | refine Below.alloc ?_ ?_ _ | refine below_ext _ ?_ ?_ | refine Below.drew ?_ | refine Below.setCell ?_ ?_ _ | refine le_alloc ?_ | refine Ext.le_size _ ?_ | refine le_drew ?_ | refine le_setCell ?_))⟩)
  · obtain ⟨rfl, fn⟩ | ⟨rfl, fn⟩ := hni
    · clear hcls hclo hcI hzi
      have FF := hid (And.intro fs fn)
      go_enter Tryz.func32, Tryz.ntmps32
      go_wp2_with (first | (go_at_call 65; refine (gB.out _).go.mono ?_; rintro e w' ⟨rfl, xw, rfl⟩) | (go_at_call 33; refine (gU.out _ (by with_reducible repeat' (first | exact Below.refl _ _ | exact Nat.le_refl _ | refine Below.alloc ?_ ?_ _ | refine below_ext _ ?_ ?_ | refine Below.drew ?_ | refine Below.setCell ?_ ?_ _ | refine le_alloc ?_ | refine Ext.le_size _ ?_ | refine le_drew ?_ | refine le_setCell ?_))).go.mono ?_; rintro e w' ⟨rfl, xw, rfl⟩) | (go_at_call 66; refine (gR.out _).go.mono ?_; rintro e w' ⟨rfl, xw, rfl⟩) | (go_at_call 67; refine (gC.out _ (by with_reducible repeat' (first | exact Below.refl _ _ | exact Nat.le_refl _ | refine Below.alloc ?_ ?_ _ | refine below_ext _ ?_ ?_ | refine Below.drew ?_ | refine Below.setCell ?_ ?_ _ | refine le_alloc ?_ | refine Ext.le_size _ ?_ | refine le_drew ?_ | refine le_setCell ?_)) (by omega)).go.mono ?_; rintro e w' ⟨rfl, xw, rfl⟩) | fail)
      all_goals first
        | (exfalso; omega)
        | (go_ret; exact ⟨ret_int (by have ff := FF.out; rw [HE.out]; (repeat' split) <;> first | rfl | omega), (by with_reducible repeat' (first | exact Below.refl _ _ | exact Nat.le_refl _ | refine Below.alloc ?_ ?_ _ | refine below_ext _ ?_ ?_ | refine Below.drew ?_ | refine Below.setCell ?_ ?_ _ | refine le_alloc ?_ | refine Ext.le_size _ ?_ | refine le_drew ?_ | refine le_setCell ?_))⟩)
    · obtain ⟨c0, c1⟩ := hcls rfl
      obtain ⟨cn, rfl⟩ := Int.eq_ofNat_of_zero_le c0
      obtain ⟨y, hy⟩ := getElem?_of_lt (show cn < cs.length by omega)
      obtain ⟨hok, b, off, hba, hbl, hcc⟩ := hclo.at_ cn y hy
      simp only at hba
      subst hba
      have h2 := hcc 2 _ rfl
      have hIy : cI = y.isI := by
        rw [hcI]
        unfold classI
        rw [Int.toNat_natCast, hy]
      rw [← hIy] at h2
      haveI : InW b w := ⟨hbl⟩
      clear hcc hok hy hIy hcI hcls hclo hzi
      obtain ⟨rfl, fu⟩ | ⟨rfl, fu⟩ := hui
      · have FF := hid (And.intro fs (And.intro fn fu))
        go_enter Tryz.func32, Tryz.ntmps32
        go_wp2_with (first | (go_at_call 65; refine (gB.out _).go.mono ?_; rintro e w' ⟨rfl, xw, rfl⟩) | (go_at_call 33; refine (gU.out _ (by with_reducible repeat' (first | exact Below.refl _ _ | exact Nat.le_refl _ | refine Below.alloc ?_ ?_ _ | refine below_ext _ ?_ ?_ | refine Below.drew ?_ | refine Below.setCell ?_ ?_ _ | refine le_alloc ?_ | refine Ext.le_size _ ?_ | refine le_drew ?_ | refine le_setCell ?_))).go.mono ?_; rintro e w' ⟨rfl, xw, rfl⟩) | (go_at_call 66; refine (gR.out _).go.mono ?_; rintro e w' ⟨rfl, xw, rfl⟩) | (go_at_call 67; refine (gC.out _ (by with_reducible repeat' (first | exact Below.refl _ _ | exact Nat.le_refl _ | refine Below.alloc ?_ ?_ _ | refine below_ext _ ?_ ?_ | refine Below.drew ?_ | refine Below.setCell ?_ ?_ _ | refine le_alloc ?_ | refine Ext.le_size _ ?_ | refine le_drew ?_ | refine le_setCell ?_)) (by omega)).go.mono ?_; rintro e w' ⟨rfl, xw, rfl⟩) | fail)
        all_goals first
          | (exfalso; omega)
          | (go_ret; exact ⟨ret_int (by have ff := FF.out; rw [HE.out]; (repeat' split) <;> first | rfl | omega), (by with_reducible repeat' (first | exact Below.refl _ _ | exact Nat.le_refl _ | refine Below.alloc ?_ ?_ _ | refine below_ext _ ?_ ?_ | refine Below.drew ?_ | refine Below.setCell ?_ ?_ _ | refine le_alloc ?_ | refine Ext.le_size _ ?_ | refine le_drew ?_ | refine le_setCell ?_))⟩)
      · obtain ⟨rfl, fr⟩ | ⟨rfl, fr⟩ := hri
        · by_cases hv : rk = 0 ∧ rp = 0 ∧ rc = 0
          · have fv : vi = 0 := by omega
            clear hvi
            obtain ⟨rfl, rfl, rfl⟩ := hv
            obtain ⟨rfl, fc⟩ | ⟨rfl, fc⟩ := hci
            all_goals
              obtain ⟨rfl, fa⟩ | ⟨rfl, fa⟩ := hai
              all_goals
                have FF := hid (And.intro fs (And.intro fn (And.intro fu (And.intro fr (And.intro fv (And.intro fc fa))))))
                go_enter Tryz.func32, Tryz.ntmps32
                go_wp2_with (first | (go_at_call 65; refine (gB.out _).go.mono ?_; rintro e w' ⟨rfl, xw, rfl⟩) | (go_at_call 33; refine (gU.out _ (by with_reducible repeat' (first | exact Below.refl _ _ | exact Nat.le_refl _ | refine Below.alloc ?_ ?_ _ | refine below_ext _ ?_ ?_ | refine Below.drew ?_ | refine Below.setCell ?_ ?_ _ | refine le_alloc ?_ | refine Ext.le_size _ ?_ | refine le_drew ?_ | refine le_setCell ?_))).go.mono ?_; rintro e w' ⟨rfl, xw, rfl⟩) | (go_at_call 66; refine (gR.out _).go.mono ?_; rintro e w' ⟨rfl, xw, rfl⟩) | (go_at_call 67; refine (gC.out _ (by with_reducible repeat' (first | exact Below.refl _ _ | exact Nat.le_refl _ | refine Below.alloc ?_ ?_ _ | refine below_ext _ ?_ ?_ | refine Below.drew ?_ | refine Below.setCell ?_ ?_ _ | refine le_alloc ?_ | refine Ext.le_size _ ?_ | refine le_drew ?_ | refine le_setCell ?_)) (by omega)).go.mono ?_; rintro e w' ⟨rfl, xw, rfl⟩) | fail)
                all_goals first
                  | (with_reducible refine wp_region_ext (by kernel_rfl) (by kernel_rfl) ?_
                     (repeat (go_big_quiet_step (fail)))
                     refine wpQuiet_nil ?_
                     intro xw
                     go_wp2_with (first | (go_at_call 65; refine (gB.out _).go.mono ?_; rintro e w' ⟨rfl, xw, rfl⟩) | (go_at_call 33; refine (gU.out _ (by with_reducible repeat' (first | exact Below.refl _ _ | exact Nat.le_refl _ | refine Below.alloc ?_ ?_ _ | refine below_ext _ ?_ ?_ | refine Below.drew ?_ | refine Below.setCell ?_ ?_ _ | refine le_alloc ?_ | refine Ext.le_size _ ?_ | refine le_drew ?_ | refine le_setCell ?_))).go.mono ?_; rintro e w' ⟨rfl, xw, rfl⟩) | (go_at_call 66; refine (gR.out _).go.mono ?_; rintro e w' ⟨rfl, xw, rfl⟩) | (go_at_call 67; refine (gC.out _ (by with_reducible repeat' (first | exact Below.refl _ _ | exact Nat.le_refl _ | refine Below.alloc ?_ ?_ _ | refine below_ext _ ?_ ?_ | refine Below.drew ?_ | refine Below.setCell ?_ ?_ _ | refine le_alloc ?_ | refine Ext.le_size _ ?_ | refine le_drew ?_ | refine le_setCell ?_)) (by omega)).go.mono ?_; rintro e w' ⟨rfl, xw, rfl⟩) | fail)
                     all_goals (go_ret; exact ⟨ret_int (by have ff := FF.out; rw [HE.out]; (repeat' split) <;> first | rfl | omega), (by with_reducible repeat' (first | exact Below.refl _ _ | exact Nat.le_refl _ | refine Below.alloc ?_ ?_ _ | refine below_ext _ ?_ ?_ | refine Below.drew ?_ | refine Below.setCell ?_ ?_ _ | refine le_alloc ?_ | refine Ext.le_size _ ?_ | refine le_drew ?_ | refine le_setCell ?_))⟩))
                  | (go_ret; exact ⟨ret_int (by have ff := FF.out; rw [HE.out]; (repeat' split) <;> first | rfl | omega), (by with_reducible repeat' (first | exact Below.refl _ _ | exact Nat.le_refl _ | refine Below.alloc ?_ ?_ _ | refine below_ext _ ?_ ?_ | refine Below.drew ?_ | refine Below.setCell ?_ ?_ _ | refine le_alloc ?_ | refine Ext.le_size _ ?_ | refine le_drew ?_ | refine le_setCell ?_))⟩)
          · have fv : vi = 1 := by omega
            clear hvi
            have FF := hid (And.intro fs (And.intro fn (And.intro fu (And.intro fr fv))))
            go_enter Tryz.func32, Tryz.ntmps32
            go_wp2_with (first | (go_at_call 65; refine (gB.out _).go.mono ?_; rintro e w' ⟨rfl, xw, rfl⟩) | (go_at_call 33; refine (gU.out _ (by with_reducible repeat' (first | exact Below.refl _ _ | exact Nat.le_refl _ | refine Below.alloc ?_ ?_ _ | refine below_ext _ ?_ ?_ | refine Below.drew ?_ | refine Below.setCell ?_ ?_ _ | refine le_alloc ?_ | refine Ext.le_size _ ?_ | refine le_drew ?_ | refine le_setCell ?_))).go.mono ?_; rintro e w' ⟨rfl, xw, rfl⟩) | (go_at_call 66; refine (gR.out _).go.mono ?_; rintro e w' ⟨rfl, xw, rfl⟩) | (go_at_call 67; refine (gC.out _ (by with_reducible repeat' (first | exact Below.refl _ _ | exact Nat.le_refl _ | refine Below.alloc ?_ ?_ _ | refine below_ext _ ?_ ?_ | refine Below.drew ?_ | refine Below.setCell ?_ ?_ _ | refine le_alloc ?_ | refine Ext.le_size _ ?_ | refine le_drew ?_ | refine le_setCell ?_)) (by omega)).go.mono ?_; rintro e w' ⟨rfl, xw, rfl⟩) | fail)
            all_goals first
              | (exfalso; omega)
              | (go_ret; exact ⟨ret_int (by have ff := FF.out; rw [HE.out]; (repeat' split) <;> first | rfl | omega), (by with_reducible repeat' (first | exact Below.refl _ _ | exact Nat.le_refl _ | refine Below.alloc ?_ ?_ _ | refine below_ext _ ?_ ?_ | refine Below.drew ?_ | refine Below.setCell ?_ ?_ _ | refine le_alloc ?_ | refine Ext.le_size _ ?_ | refine le_drew ?_ | refine le_setCell ?_))⟩)
        · clear hvi
          obtain ⟨rfl, fc⟩ | ⟨rfl, fc⟩ := hci
          all_goals
            obtain ⟨rfl, fa⟩ | ⟨rfl, fa⟩ := hai
            all_goals
              have FF := hid (And.intro fs (And.intro fn (And.intro fu (And.intro fr (And.intro fc fa)))))
              go_enter Tryz.func32, Tryz.ntmps32
              go_wp2_with (first | (go_at_call 65; refine (gB.out _).go.mono ?_; rintro e w' ⟨rfl, xw, rfl⟩) | (go_at_call 33; refine (gU.out _ (by with_reducible repeat' (first | exact Below.refl _ _ | exact Nat.le_refl _ | refine Below.alloc ?_ ?_ _ | refine below_ext _ ?_ ?_ | refine Below.drew ?_ | refine Below.setCell ?_ ?_ _ | refine le_alloc ?_ | refine Ext.le_size _ ?_ | refine le_drew ?_ | refine le_setCell ?_))).go.mono ?_; rintro e w' ⟨rfl, xw, rfl⟩) | (go_at_call 66; refine (gR.out _).go.mono ?_; rintro e w' ⟨rfl, xw, rfl⟩) | (go_at_call 67; refine (gC.out _ (by with_reducible repeat' (first | exact Below.refl _ _ | exact Nat.le_refl _ | refine Below.alloc ?_ ?_ _ | refine below_ext _ ?_ ?_ | refine Below.drew ?_ | refine Below.setCell ?_ ?_ _ | refine le_alloc ?_ | refine Ext.le_size _ ?_ | refine le_drew ?_ | refine le_setCell ?_)) (by omega)).go.mono ?_; rintro e w' ⟨rfl, xw, rfl⟩) | fail)
              all_goals first
                | (with_reducible refine wp_region_ext (by kernel_rfl) (by kernel_rfl) ?_
                   (repeat (go_big_quiet_step (fail)))
                   refine wpQuiet_nil ?_
                   intro xw
                   go_wp2_with (first | (go_at_call 65; refine (gB.out _).go.mono ?_; rintro e w' ⟨rfl, xw, rfl⟩) | (go_at_call 33; refine (gU.out _ (by with_reducible repeat' (first | exact Below.refl _ _ | exact Nat.le_refl _ | refine Below.alloc ?_ ?_ _ | refine below_ext _ ?_ ?_ | refine Below.drew ?_ | refine Below.setCell ?_ ?_ _ | refine le_alloc ?_ | refine Ext.le_size _ ?_ | refine le_drew ?_ | refine le_setCell ?_))).go.mono ?_; rintro e w' ⟨rfl, xw, rfl⟩) | (go_at_call 66; refine (gR.out _).go.mono ?_; rintro e w' ⟨rfl, xw, rfl⟩) | (go_at_call 67; refine (gC.out _ (by with_reducible repeat' (first | exact Below.refl _ _ | exact Nat.le_refl _ | refine Below.alloc ?_ ?_ _ | refine below_ext _ ?_ ?_ | refine Below.drew ?_ | refine Below.setCell ?_ ?_ _ | refine le_alloc ?_ | refine Ext.le_size _ ?_ | refine le_drew ?_ | refine le_setCell ?_)) (by omega)).go.mono ?_; rintro e w' ⟨rfl, xw, rfl⟩) | fail)
                   all_goals (go_ret; exact ⟨ret_int (by have ff := FF.out; rw [HE.out]; (repeat' split) <;> first | rfl | omega), (by with_reducible repeat' (first | exact Below.refl _ _ | exact Nat.le_refl _ | refine Below.alloc ?_ ?_ _ | refine below_ext _ ?_ ?_ | refine Below.drew ?_ | refine Below.setCell ?_ ?_ _ | refine le_alloc ?_ | refine Ext.le_size _ ?_ | refine le_drew ?_ | refine le_setCell ?_))⟩))
                | (go_ret; exact ⟨ret_int (by have ff := FF.out; rw [HE.out]; (repeat' split) <;> first | rfl | omega), (by with_reducible repeat' (first | exact Below.refl _ _ | exact Nat.le_refl _ | refine Below.alloc ?_ ?_ _ | refine below_ext _ ?_ ?_ | refine Below.drew ?_ | refine Below.setCell ?_ ?_ _ | refine le_alloc ?_ | refine Ext.le_size _ ?_ | refine le_drew ?_ | refine le_setCell ?_))⟩)
end Go.Proofs.YthagkijplklemaaGreatDoor
end
