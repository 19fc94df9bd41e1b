/- The reference's checks: a method. The reference's checks: an applet. -/
import Derived.Test.YthagkijplklemaaGreatDoorS10
section
namespace Go.Proofs.YthagkijplklemaaGreatDoor
open Go.ChangeShapes Go.WideShapes Go.ChangeAt Go.RowKit Go.Sc
theorem metE_code (p : Pk) (m : Me) : metE p m = if (m.static = true ∧ ¬ m.cls = 0) ∨ (m.static = false ∧ below m.cls p.classes.xs.length = false) then 2
  else if 6 < m.params.xs.length then 3
  else if allUsable p m.params.xs = false ∨ ((¬ m.result.k = 0 ∨ ¬ m.result.c.p = 0 ∨ ¬ m.result.c.c = 0) ∧ usable p.imports.xs.length p.classes.xs.length ⟨m.result.k, ⟨m.result.c.p, m.result.c.c⟩⟩ = false) then 22
  else if ¬ m.abs = (!m.static && classI p m.cls) then 4
  else if m.abs = true then (if ¬ m.locals = 0 ∨ ¬ m.stack = 0 ∨ 0 < m.code.xs.length ∨ 0 < m.hs.xs.length then 4 else 0)
  else codeE p m := rfl
set_option maxRecDepth 20000 in
set_option maxHeartbeats 8000000 in
theorem kmethod_any (p : Pk) (m : Me) (w : World) (hp : Hid (p.Ok w)) (hm : Hid (m.Ok w)) : Gives Tryz.prog 32 #[p.v, m.v] w (.int .i64 (metE p m)) := by
  obtain ⟨nb, hnb⟩ : ∃ b, below m.cls p.classes.xs.length = !b := ⟨!below m.cls p.classes.xs.length, by simp⟩
  obtain ⟨u, hu⟩ : ∃ b, allUsable p m.params.xs = !b := ⟨!allUsable p m.params.xs, by simp⟩
  obtain ⟨ur, hur⟩ : ∃ b, usable p.imports.xs.length p.classes.xs.length m.result = !b := ⟨!usable p.imports.xs.length p.classes.xs.length m.result, by simp⟩
  obtain ⟨E, hE0⟩ : ∃ E, E = codeE p m := ⟨_, rfl⟩
  obtain ⟨cI, hcI⟩ : ∃ c, c = classI p m.cls := ⟨_, rfl⟩
  obtain ⟨si, hsi⟩ : ∃ i : Int, (m.static = true ∧ i = 1) ∨ (m.static = false ∧ i = 0) := by cases m.static; exact ⟨0, .inr ⟨rfl, rfl⟩⟩; exact ⟨1, .inl ⟨rfl, rfl⟩⟩
  obtain ⟨ai, hai⟩ : ∃ i : Int, (m.abs = true ∧ i = 1) ∨ (m.abs = false ∧ i = 0) := by cases m.abs; exact ⟨0, .inr ⟨rfl, rfl⟩⟩; exact ⟨1, .inl ⟨rfl, rfl⟩⟩
  obtain ⟨ni, hni⟩ : ∃ i : Int, (nb = true ∧ i = 1) ∨ (nb = false ∧ i = 0) := by cases nb; exact ⟨0, .inr ⟨rfl, rfl⟩⟩; exact ⟨1, .inl ⟨rfl, rfl⟩⟩
  obtain ⟨ui, hui⟩ : ∃ i : Int, (u = true ∧ i = 1) ∨ (u = false ∧ i = 0) := by cases u; exact ⟨0, .inr ⟨rfl, rfl⟩⟩; exact ⟨1, .inl ⟨rfl, rfl⟩⟩
  obtain ⟨ri, hri⟩ : ∃ i : Int, (ur = true ∧ i = 1) ∨ (ur = false ∧ i = 0) := by cases ur; exact ⟨0, .inr ⟨rfl, rfl⟩⟩; exact ⟨1, .inl ⟨rfl, rfl⟩⟩
  obtain ⟨ci, hci⟩ : ∃ i : Int, (cI = true ∧ i = 1) ∨ (cI = false ∧ i = 0) := by cases cI; exact ⟨0, .inr ⟨rfl, rfl⟩⟩; exact ⟨1, .inl ⟨rfl, rfl⟩⟩
  obtain ⟨zi, hzi⟩ : ∃ i : Int, (m.cls = 0 ∧ i = 0) ∨ (¬ m.cls = 0 ∧ i = 1) := by by_cases h : m.cls = 0; exact ⟨0, .inl ⟨h, rfl⟩⟩; exact ⟨1, .inr ⟨h, rfl⟩⟩
  obtain ⟨vi, hvi⟩ : ∃ i : Int, ((m.result.k = 0 ∧ m.result.c.p = 0 ∧ m.result.c.c = 0) ∧ i = 0) ∨ (¬ (m.result.k = 0 ∧ m.result.c.p = 0 ∧ m.result.c.c = 0) ∧ i = 1) := by by_cases h : m.result.k = 0 ∧ m.result.c.p = 0 ∧ m.result.c.c = 0; exact ⟨0, .inl ⟨h, rfl⟩⟩; exact ⟨1, .inr ⟨h, rfl⟩⟩
  have hE : metE p m = if (si = 1 ∧ zi = 1) ∨ (si = 0 ∧ ni = 1) then 2
      else if 6 < m.params.xs.length then 3
      else if ui = 1 ∨ (vi = 1 ∧ ri = 1) then 22
      else if ¬ ai = (if si = 0 then ci else 0) then 4
      else if ai = 1 then (if ¬ m.locals = 0 ∨ ¬ m.stack = 0 ∨ 0 < m.code.xs.length ∨ 0 < m.hs.xs.length then 4 else 0) else E := by
    have q1 : (m.static = true ∧ ¬ m.cls = 0) ∨ (m.static = false ∧ below m.cls p.classes.xs.length = false) ↔ (si = 1 ∧ zi = 1) ∨ (si = 0 ∧ ni = 1) := by
      rw [hnb]
      rcases hsi with ⟨a1, rfl⟩ | ⟨a1, rfl⟩ <;> rcases hni with ⟨a3, rfl⟩ | ⟨a3, rfl⟩ <;> rcases hzi with ⟨a7, rfl⟩ | ⟨a7, rfl⟩ <;> simp [a1, a3, a7]
    have q2 : allUsable p m.params.xs = false ∨ ((¬ m.result.k = 0 ∨ ¬ m.result.c.p = 0 ∨ ¬ m.result.c.c = 0) ∧ usable p.imports.xs.length p.classes.xs.length ⟨m.result.k, ⟨m.result.c.p, m.result.c.c⟩⟩ = false) ↔ ui = 1 ∨ (vi = 1 ∧ ri = 1) := by
      rw [hu, show usable p.imports.xs.length p.classes.xs.length ⟨m.result.k, ⟨m.result.c.p, m.result.c.c⟩⟩ = !ur from hur, show (¬ m.result.k = 0 ∨ ¬ m.result.c.p = 0 ∨ ¬ m.result.c.c = 0) ↔ ¬ (m.result.k = 0 ∧ m.result.c.p = 0 ∧ m.result.c.c = 0) by omega]
      rcases hui with ⟨a1, rfl⟩ | ⟨a1, rfl⟩ <;> rcases hri with ⟨a3, rfl⟩ | ⟨a3, rfl⟩ <;> rcases hvi with ⟨a7, rfl⟩ | ⟨a7, rfl⟩ <;> simp only [a1, a3, a7] <;> simp
    have q3 : (¬ m.abs = (!m.static && classI p m.cls)) ↔ (¬ ai = (if si = 0 then ci else 0)) := by
      rw [← hcI]
      rcases hsi with ⟨a1, rfl⟩ | ⟨a1, rfl⟩ <;> rcases hai with ⟨a3, rfl⟩ | ⟨a3, rfl⟩ <;> rcases hci with ⟨a7, rfl⟩ | ⟨a7, rfl⟩ <;> simp [a1, a3, a7]
    have q4 : m.abs = true ↔ ai = 1 := by rcases hai with ⟨a3, rfl⟩ | ⟨a3, rfl⟩ <;> simp [a3]
    rw [metE_code]
    simp only [q1, q2, q3, q4, hE0]
  have gB : Hid (∀ W : World, Gives Tryz.prog 65 #[.int .i64 m.cls, .int .i64 p.classes.xs.length] W (.bool (!nb))) := fun W => by rw [← hnb]; exact rbelow_any _ _ W
  have gU : Hid (∀ W : World, Below w.heap.size w W → Gives Tryz.prog 33 #[p.v, m.params.v] W (.bool (!u))) := fun W h => by rw [← hu]; exact rusableL_any p m.params W (hm.out.params.mono h)
  have gR : Hid (∀ W : World, Gives Tryz.prog 66 #[p.v, m.result.v] W (.bool (!ur))) := fun W => by rw [← hur]; exact rUsable_any p m.result W
  have gC : Hid (∀ W : World, Below w.heap.size w W → m.params.xs.length ≤ 1000 → Gives Tryz.prog 67 #[p.v, m.v] W (.int .i64 E)) := fun W h h2 => by rw [hE0]; exact rcode_any p m W (hid (eMe.mono h hm.out)) h2
  have hcls : nb = false → 0 ≤ m.cls ∧ m.cls < p.classes.xs.length := fun h => by rw [h] at hnb; unfold below at hnb; simp at hnb; omega
  obtain ⟨R, hR⟩ : ∃ R, R = metE p m := ⟨_, rfl⟩
  rw [← hR] at hE ⊢
  have HE := hid hE
  have hclo := hp.out.classes
  clear hnb hu hur hE0 hR hE hp hm
  obtain ⟨aid, mj, mn, im, ⟨ca, cc, cs⟩, me, st, ap⟩ := p
  obtain ⟨ss, ab, cl, pa, ⟨rk, rp, rc⟩, lo, sk, ⟨da, dc, ds⟩, ⟨ha, hc, hs⟩⟩ := m
  simp only at HE gB gU gR gC hcls hcI hclo hsi hai hzi hvi
  have hle := hclo.le
  have hmx := hclo.max
  simp only at hle hmx
  show Gives _ _ #[.agg #[.slice aid.a aid.xs.length aid.c, .int .i64 mj, .int .i64 mn, .slice im.a im.xs.length im.c, .slice ca cs.length cc, .slice me.a me.xs.length me.c, .slice st.a st.xs.length st.c, .slice ap.a ap.xs.length ap.c], .agg #[.bool ss, .bool ab, .int .i64 cl, .slice pa.a pa.xs.length pa.c, .int .i64 rk, .int .i64 rp, .int .i64 rc, .int .i64 lo, .int .i64 sk, .slice da ds.length dc, .slice ha hs.length hc]] _ _
  unfold Gives
  obtain ⟨rfl, fs⟩ | ⟨rfl, fs⟩ := hsi
  · clear hcls hclo hcI
    by_cases hz : cl = 0
    · have fz : zi = 0 := by omega
      clear hzi
      subst hz
      obtain ⟨rfl, fu⟩ | ⟨rfl, fu⟩ := hui
      · have FF := hid (And.intro fs (And.intro fz fu))
        go_enter Tryz.func32, Tryz.ntmps32
        go_wp2_with (first | (go_at_call 65; refine (gB.out _).go.mono ?_; rintro e w' ⟨rfl, xw, rfl⟩) | (go_at_call 33; refine (gU.out _ END).go.mono ?_; rintro e w' ⟨rfl, xw, rfl⟩) | (go_at_call 66; refine (gR.out _).go.mono ?_; rintro e w' ⟨rfl, xw, rfl⟩) | (go_at_call 67; refine (gC.out _ END (by omega)).go.mono ?_; rintro e w' ⟨rfl, xw, rfl⟩) | fail)
        all_goals first
          | (exfalso; omega)
          | (go_ret; exact ⟨ret_int (by have ff := FF.out; rw [HE.out]; (repeat' split) <;> first | rfl | omega), END⟩)
      · obtain ⟨rfl, fr⟩ | ⟨rfl, fr⟩ := hri
        · by_cases hv : rk = 0 ∧ rp = 0 ∧ rc = 0
          · have fv : vi = 0 := by omega
            clear hvi
            obtain ⟨rfl, rfl, rfl⟩ := hv
            obtain ⟨rfl, fa⟩ | ⟨rfl, fa⟩ := hai
            all_goals
              have FF := hid (And.intro fs (And.intro fz (And.intro fu (And.intro fr (And.intro fv fa)))))
              go_enter Tryz.func32, Tryz.ntmps32
              go_wp2_with (first | (go_at_call 65; refine (gB.out _).go.mono ?_; rintro e w' ⟨rfl, xw, rfl⟩) | (go_at_call 33; refine (gU.out _ END).go.mono ?_; rintro e w' ⟨rfl, xw, rfl⟩) | (go_at_call 66; refine (gR.out _).go.mono ?_; rintro e w' ⟨rfl, xw, rfl⟩) | (go_at_call 67; refine (gC.out _ END (by omega)).go.mono ?_; rintro e w' ⟨rfl, xw, rfl⟩) | fail)
              all_goals first
                | (with_reducible refine wp_region_ext (by kernel_rfl) (by kernel_rfl) ?_
                   (repeat (go_big_quiet_step (fail)))
                   refine wpQuiet_nil ?_
                   intro xw
                   go_wp2_with (first | (go_at_call 65; refine (gB.out _).go.mono ?_; rintro e w' ⟨rfl, xw, rfl⟩) | (go_at_call 33; refine (gU.out _ END).go.mono ?_; rintro e w' ⟨rfl, xw, rfl⟩) | (go_at_call 66; refine (gR.out _).go.mono ?_; rintro e w' ⟨rfl, xw, rfl⟩) | (go_at_call 67; refine (gC.out _ END (by omega)).go.mono ?_; rintro e w' ⟨rfl, xw, rfl⟩) | fail)
                   all_goals (go_ret; exact ⟨ret_int (by have ff := FF.out; rw [HE.out]; (repeat' split) <;> first | rfl | omega), END⟩))
                | (go_ret; exact ⟨ret_int (by have ff := FF.out; rw [HE.out]; (repeat' split) <;> first | rfl | omega), END⟩)
          · have fv : vi = 1 := by omega
            clear hvi
            have FF := hid (And.intro fs (And.intro fz (And.intro fu (And.intro fr fv))))
            go_enter Tryz.func32, Tryz.ntmps32
            go_wp2_with (first | (go_at_call 65; refine (gB.out _).go.mono ?_; rintro e w' ⟨rfl, xw, rfl⟩) | (go_at_call 33; refine (gU.out _ END).go.mono ?_; rintro e w' ⟨rfl, xw, rfl⟩) | (go_at_call 66; refine (gR.out _).go.mono ?_; rintro e w' ⟨rfl, xw, rfl⟩) | (go_at_call 67; refine (gC.out _ END (by omega)).go.mono ?_; rintro e w' ⟨rfl, xw, rfl⟩) | fail)
            all_goals first
              | (exfalso; omega)
              | (go_ret; exact ⟨ret_int (by have ff := FF.out; rw [HE.out]; (repeat' split) <;> first | rfl | omega), END⟩)
        · clear hvi
          obtain ⟨rfl, fa⟩ | ⟨rfl, fa⟩ := hai
          all_goals
            have FF := hid (And.intro fs (And.intro fz (And.intro fu (And.intro fr fa))))
            go_enter Tryz.func32, Tryz.ntmps32
            go_wp2_with (first | (go_at_call 65; refine (gB.out _).go.mono ?_; rintro e w' ⟨rfl, xw, rfl⟩) | (go_at_call 33; refine (gU.out _ END).go.mono ?_; rintro e w' ⟨rfl, xw, rfl⟩) | (go_at_call 66; refine (gR.out _).go.mono ?_; rintro e w' ⟨rfl, xw, rfl⟩) | (go_at_call 67; refine (gC.out _ END (by omega)).go.mono ?_; rintro e w' ⟨rfl, xw, rfl⟩) | fail)
            all_goals first
              | (with_reducible refine wp_region_ext (by kernel_rfl) (by kernel_rfl) ?_
                 (repeat (go_big_quiet_step (fail)))
                 refine wpQuiet_nil ?_
                 intro xw
                 go_wp2_with (first | (go_at_call 65; refine (gB.out _).go.mono ?_; rintro e w' ⟨rfl, xw, rfl⟩) | (go_at_call 33; refine (gU.out _ END).go.mono ?_; rintro e w' ⟨rfl, xw, rfl⟩) | (go_at_call 66; refine (gR.out _).go.mono ?_; rintro e w' ⟨rfl, xw, rfl⟩) | (go_at_call 67; refine (gC.out _ END (by omega)).go.mono ?_; rintro e w' ⟨rfl, xw, rfl⟩) | fail)
                 all_goals (go_ret; exact ⟨ret_int (by have ff := FF.out; rw [HE.out]; (repeat' split) <;> first | rfl | omega), END⟩))
              | (go_ret; exact ⟨ret_int (by have ff := FF.out; rw [HE.out]; (repeat' split) <;> first | rfl | omega), END⟩)
    · have fz : zi = 1 := by omega
      clear hzi
      have FF := hid (And.intro fs fz)
      go_enter Tryz.func32, Tryz.ntmps32
      go_wp2_with (first | (go_at_call 65; refine (gB.out _).go.mono ?_; rintro e w' ⟨rfl, xw, rfl⟩) | (go_at_call 33; refine (gU.out _ END).go.mono ?_; rintro e w' ⟨rfl, xw, rfl⟩) | (go_at_call 66; refine (gR.out _).go.mono ?_; rintro e w' ⟨rfl, xw, rfl⟩) | (go_at_call 67; refine (gC.out _ END (by omega)).go.mono ?_; rintro e w' ⟨rfl, xw, rfl⟩) | fail)
      all_goals first
        | (exfalso; omega)
        | (go_ret; exact ⟨ret_int (by have ff := FF.out; rw [HE.out]; (repeat' split) <;> first | rfl | omega), END⟩)
  · obtain ⟨rfl, fn⟩ | ⟨rfl, fn⟩ := hni
    · clear hcls hclo hcI hzi
      have FF := hid (And.intro fs fn)
      go_enter Tryz.func32, Tryz.ntmps32
      go_wp2_with (first | (go_at_call 65; refine (gB.out _).go.mono ?_; rintro e w' ⟨rfl, xw, rfl⟩) | (go_at_call 33; refine (gU.out _ END).go.mono ?_; rintro e w' ⟨rfl, xw, rfl⟩) | (go_at_call 66; refine (gR.out _).go.mono ?_; rintro e w' ⟨rfl, xw, rfl⟩) | (go_at_call 67; refine (gC.out _ END (by omega)).go.mono ?_; rintro e w' ⟨rfl, xw, rfl⟩) | fail)
      all_goals first
        | (exfalso; omega)
        | (go_ret; exact ⟨ret_int (by have ff := FF.out; rw [HE.out]; (repeat' split) <;> first | rfl | omega), END⟩)
    · obtain ⟨c0, c1⟩ := hcls rfl
      obtain ⟨cn, rfl⟩ := Int.eq_ofNat_of_zero_le c0
      obtain ⟨y, hy⟩ := getElem?_of_lt (show cn < cs.length by omega)
      obtain ⟨hok, b, off, hba, hbl, hcc⟩ := hclo.at_ cn y hy
      simp only at hba
      subst hba
      have h2 := hcc 2 _ rfl
      have hIy : cI = y.isI := by
        rw [hcI]
        unfold classI
        rw [Int.toNat_natCast, hy]
      rw [← hIy] at h2
      haveI : InW b w := ⟨hbl⟩
      clear hcc hok hy hIy hcI hcls hclo hzi
      obtain ⟨rfl, fu⟩ | ⟨rfl, fu⟩ := hui
      · have FF := hid (And.intro fs (And.intro fn fu))
        go_enter Tryz.func32, Tryz.ntmps32
        go_wp2_with (first | (go_at_call 65; refine (gB.out _).go.mono ?_; rintro e w' ⟨rfl, xw, rfl⟩) | (go_at_call 33; refine (gU.out _ END).go.mono ?_; rintro e w' ⟨rfl, xw, rfl⟩) | (go_at_call 66; refine (gR.out _).go.mono ?_; rintro e w' ⟨rfl, xw, rfl⟩) | (go_at_call 67; refine (gC.out _ END (by omega)).go.mono ?_; rintro e w' ⟨rfl, xw, rfl⟩) | fail)
        all_goals first
          | (exfalso; omega)
          | (go_ret; exact ⟨ret_int (by have ff := FF.out; rw [HE.out]; (repeat' split) <;> first | rfl | omega), END⟩)
      · obtain ⟨rfl, fr⟩ | ⟨rfl, fr⟩ := hri
        · by_cases hv : rk = 0 ∧ rp = 0 ∧ rc = 0
          · have fv : vi = 0 := by omega
            clear hvi
            obtain ⟨rfl, rfl, rfl⟩ := hv
            obtain ⟨rfl, fc⟩ | ⟨rfl, fc⟩ := hci
            all_goals
              obtain ⟨rfl, fa⟩ | ⟨rfl, fa⟩ := hai
              all_goals
                have FF := hid (And.intro fs (And.intro fn (And.intro fu (And.intro fr (And.intro fv (And.intro fc fa))))))
                go_enter Tryz.func32, Tryz.ntmps32
                go_wp2_with (first | (go_at_call 65; refine (gB.out _).go.mono ?_; rintro e w' ⟨rfl, xw, rfl⟩) | (go_at_call 33; refine (gU.out _ END).go.mono ?_; rintro e w' ⟨rfl, xw, rfl⟩) | (go_at_call 66; refine (gR.out _).go.mono ?_; rintro e w' ⟨rfl, xw, rfl⟩) | (go_at_call 67; refine (gC.out _ END (by omega)).go.mono ?_; rintro e w' ⟨rfl, xw, rfl⟩) | fail)
                all_goals first
                  | (with_reducible refine wp_region_ext (by kernel_rfl) (by kernel_rfl) ?_
                     (repeat (go_big_quiet_step (fail)))
                     refine wpQuiet_nil ?_
                     intro xw
                     go_wp2_with (first | (go_at_call 65; refine (gB.out _).go.mono ?_; rintro e w' ⟨rfl, xw, rfl⟩) | (go_at_call 33; refine (gU.out _ END).go.mono ?_; rintro e w' ⟨rfl, xw, rfl⟩) | (go_at_call 66; refine (gR.out _).go.mono ?_; rintro e w' ⟨rfl, xw, rfl⟩) | (go_at_call 67; refine (gC.out _ END (by omega)).go.mono ?_; rintro e w' ⟨rfl, xw, rfl⟩) | fail)
                     all_goals (go_ret; exact ⟨ret_int (by have ff := FF.out; rw [HE.out]; (repeat' split) <;> first | rfl | omega), END⟩))
                  | (go_ret; exact ⟨ret_int (by have ff := FF.out; rw [HE.out]; (repeat' split) <;> first | rfl | omega), END⟩)
          · have fv : vi = 1 := by omega
            clear hvi
            have FF := hid (And.intro fs (And.intro fn (And.intro fu (And.intro fr fv))))
            go_enter Tryz.func32, Tryz.ntmps32
            go_wp2_with (first | (go_at_call 65; refine (gB.out _).go.mono ?_; rintro e w' ⟨rfl, xw, rfl⟩) | (go_at_call 33; refine (gU.out _ END).go.mono ?_; rintro e w' ⟨rfl, xw, rfl⟩) | (go_at_call 66; refine (gR.out _).go.mono ?_; rintro e w' ⟨rfl, xw, rfl⟩) | (go_at_call 67; refine (gC.out _ END (by omega)).go.mono ?_; rintro e w' ⟨rfl, xw, rfl⟩) | fail)
            all_goals first
              | (exfalso; omega)
              | (go_ret; exact ⟨ret_int (by have ff := FF.out; rw [HE.out]; (repeat' split) <;> first | rfl | omega), END⟩)
        · clear hvi
          obtain ⟨rfl, fc⟩ | ⟨rfl, fc⟩ := hci
          all_goals
            obtain ⟨rfl, fa⟩ | ⟨rfl, fa⟩ := hai
            all_goals
              have FF := hid (And.intro fs (And.intro fn (And.intro fu (And.intro fr (And.intro fc fa)))))
              go_enter Tryz.func32, Tryz.ntmps32
              go_wp2_with (first | (go_at_call 65; refine (gB.out _).go.mono ?_; rintro e w' ⟨rfl, xw, rfl⟩) | (go_at_call 33; refine (gU.out _ END).go.mono ?_; rintro e w' ⟨rfl, xw, rfl⟩) | (go_at_call 66; refine (gR.out _).go.mono ?_; rintro e w' ⟨rfl, xw, rfl⟩) | (go_at_call 67; refine (gC.out _ END (by omega)).go.mono ?_; rintro e w' ⟨rfl, xw, rfl⟩) | fail)
              all_goals first
                | (with_reducible refine wp_region_ext (by kernel_rfl) (by kernel_rfl) ?_
                   (repeat (go_big_quiet_step (fail)))
                   refine wpQuiet_nil ?_
                   intro xw
                   go_wp2_with (first | (go_at_call 65; refine (gB.out _).go.mono ?_; rintro e w' ⟨rfl, xw, rfl⟩) | (go_at_call 33; refine (gU.out _ END).go.mono ?_; rintro e w' ⟨rfl, xw, rfl⟩) | (go_at_call 66; refine (gR.out _).go.mono ?_; rintro e w' ⟨rfl, xw, rfl⟩) | (go_at_call 67; refine (gC.out _ END (by omega)).go.mono ?_; rintro e w' ⟨rfl, xw, rfl⟩) | fail)
                   all_goals (go_ret; exact ⟨ret_int (by have ff := FF.out; rw [HE.out]; (repeat' split) <;> first | rfl | omega), END⟩))
                | (go_ret; exact ⟨ret_int (by have ff := FF.out; rw [HE.out]; (repeat' split) <;> first | rfl | omega), END⟩)
end Go.Proofs.YthagkijplklemaaGreatDoor
end

section
namespace Go.Proofs.YthagkijplklemaaGreatDoor
open Go.ChangeShapes Go.WideShapes Go.ChangeAt Go.RowKit Go.Sc
theorem usable_two {ni nc : Nat} {t : Ty} (h : usable ni nc t = true) (h2 : t.k = 2) : t = ⟨2, ⟨0, 0⟩⟩ := by
  obtain ⟨k, p, c⟩ := t
  simp only at h2
  subst h2
  simp [usable] at h
  simp [h]
/-- A method that installs, al the reference says it. -/
theorem instB_iff {p : Pk} {m : Me} (h : allUsable p m.params.xs = true) (K : Int) (hK : ∀ t, m.params.xs[0]? = some t → t.k = K) :
    instB m = true ↔ m.static = true ∧ m.params.xs.length = 1 ∧ K = 2 ∧ m.result.k = 5 ∧ m.result.c.p = 255 ∧ m.result.c.c = 0 := by
  unfold instB
  simp only [Bool.and_eq_true, decide_eq_true_eq]
  constructor
  · rintro ⟨h1, h2, h3, h4, h5⟩
    have h6 := (eqF_iff (p := fun x y : Ty => decide (x = y)) (by simp)).1 h2
    rw [h6] at hK ⊢
    exact ⟨h1, rfl, (hK _ rfl).symm, h3, h4, h5⟩
  · rintro ⟨h1, h2, h3, h4, h5, h6⟩
    refine ⟨h1, (eqF_iff (by simp)).2 ?_, h4, h5, h6⟩
    match hq : m.params.xs, h2 with
    | [t], _ =>
      rw [hq] at hK
      have hk := hK t rfl
      have hu : usable p.imports.xs.length p.classes.xs.length t = true := by
        unfold allUsable at h
        rw [hq] at h
        simpa using h
      rw [usable_two hu (hk.trans h3)]
set_option maxRecDepth 20000 in
set_option maxHeartbeats 8000000 in
theorem rapplet_any (p : Pk) (n : Nat) (x : Ap) (w : World) (hp : Hid (p.Ok w)) (hx : Hid (p.applets.xs[n]? = some x)) (hu : Hid (∀ m ∈ p.methods.xs, allUsable p m.params.xs = true)) : Gives Tryz.prog 34 #[p.v, .int .i64 n] w (.int .i64 (appE p n x)) := by
  obtain ⟨hxo, b0, off0, hba0, hbl0, hc0⟩ := hp.out.applets.at_ n x hx.out
  have hxo := hxo.1
  have hl2 := (List.getElem?_eq_some_iff.1 hx.out).1
  have hle2 := hp.out.applets.le
  have hmx2 := hp.out.applets.max
  have hle3 := hp.out.classes.le
  have hmx3 := hp.out.classes.max
  have hle4 := hp.out.methods.le
  have hmx4 := hp.out.methods.max
  obtain ⟨b1, e1⟩ : ∃ b, isName x.aid.xs.length = !b := ⟨!isName x.aid.xs.length, by simp⟩
  obtain ⟨b2, e2⟩ : ∃ b, below x.cls p.classes.xs.length = !b := ⟨!below x.cls p.classes.xs.length, by simp⟩
  obtain ⟨b3, e3⟩ : ∃ b, below x.inst p.methods.xs.length = !b := ⟨!below x.inst p.methods.xs.length, by simp⟩
  have hE : appE p n x = if b1 = true then 1 else if (p.applets.xs.take n).any (fun y => bEq x.aid.xs y.aid.xs) = true then 13 else if b2 = true ∨ b3 = true then 2 else if classI p x.cls = true ∨ classV p x.cls < 4 then 4 else if methI p x.inst = true then 0 else 22 := by
    unfold appE
    rw [e1, e2, e3]
    cases b1 <;> cases b2 <;> cases b3 <;> simp
  have q2 : b2 = false → ∃ (j : Nat) (c : Cl), x.cls = (j : Int) ∧ p.classes.xs[j]? = some c ∧ classI p x.cls = c.isI ∧ classV p x.cls = c.virt.xs.length := fun h => by
    rw [h] at e2
    unfold below at e2
    simp at e2
    obtain ⟨c, hc⟩ := getElem?_of_lt (xs := p.classes.xs) (k := x.cls.toNat) (by omega)
    exact ⟨x.cls.toNat, c, by omega, hc, by unfold classI; rw [hc], by unfold classV; rw [hc]⟩
  have q3 : b3 = false → ∃ (j : Nat) (m : Me), x.inst = (j : Int) ∧ p.methods.xs[j]? = some m ∧ methI p x.inst = instB m := fun h => by
    rw [h] at e3
    unfold below at e3
    simp at e3
    obtain ⟨c, hc⟩ := getElem?_of_lt (xs := p.methods.xs) (k := x.inst.toNat) (by omega)
    exact ⟨x.inst.toNat, c, by omega, hc, by unfold methI; rw [hc]⟩
  have q4 : ∀ m ∈ p.methods.xs, ∀ K : Int, (∀ t, m.params.xs[0]? = some t → t.k = K) → (instB m = true ↔ m.static = true ∧ m.params.xs.length = 1 ∧ K = 2 ∧ m.result.k = 5 ∧ m.result.c.p = 255 ∧ m.result.c.c = 0) := fun m hm K hK => instB_iff (hu.out m hm) K hK
  have g1 : Hid (∀ W : World, Gives Tryz.prog 28 #[.slice x.aid.a x.aid.xs.length x.aid.c] W (.bool (!b1))) := fun W => by rw [← e1]; exact risName_any _ _ _ W
  have g2 : Hid (∀ W : World, Gives Tryz.prog 65 #[.int .i64 x.cls, .int .i64 p.classes.xs.length] W (.bool (!b2))) := fun W => by rw [← e2]; exact rbelow_any _ _ W
  have g3 : Hid (∀ W : World, Gives Tryz.prog 65 #[.int .i64 x.inst, .int .i64 p.methods.xs.length] W (.bool (!b3))) := fun W => by rw [← e3]; exact rbelow_any _ _ W
  obtain ⟨R, hR⟩ : ∃ R, R = appE p n x := ⟨_, rfl⟩
  obtain ⟨cI, hcI⟩ : ∃ c, c = classI p x.cls := ⟨_, rfl⟩
  obtain ⟨cV, hcV⟩ : ∃ c, c = classV p x.cls := ⟨_, rfl⟩
  obtain ⟨mI, hmI⟩ : ∃ c, c = methI p x.inst := ⟨_, rfl⟩
  rw [← hR] at hE ⊢
  rw [← hcI, ← hcV] at hE q2
  rw [← hmI] at hE q3
  have ho1 := hp.out.applets
  have ho2 := hp.out.classes
  have ho3 := hp.out.methods
  clear hR hcI hcV hmI e1 e2 e3 hu hp hx
  obtain ⟨aid, mj, mn, im, ⟨ca, cc, cs⟩, ⟨ma, mc, ms⟩, st, ⟨aa, ac, al⟩⟩ := p
  obtain ⟨⟨ya, yc, ys⟩, xc, xi⟩ := x
  simp only at hba0 hl2 hle2 hmx2 hle3 hmx3 hle4 hmx4 hE q2 q3 q4 g1 g2 g3 ho1 ho2 ho3 hxo
  subst hba0
  have h0 := hc0 0 _ rfl; have h1 := hc0 1 _ rfl; have h2 := hc0 2 _ rfl; simp only [Nat.add_zero] at h0
  simp only at h0 h1 h2
  haveI : InW b0 w := ⟨hbl0⟩
  have hn1 : (0 : Int) ≤ (n : Int) := by omega
  have hn2 : (n : Int) < (al.length : Int) := by omega
  have HE := hid hE
  have HQ2 := hid q2
  have HQ3 := hid q3
  have HQ4 := hid q4
  clear hc0 hE q2 q3 q4
  show Gives _ _ #[.agg #[.slice aid.a aid.xs.length aid.c, .int .i64 mj, .int .i64 mn, .slice im.a im.xs.length im.c, .slice ca cs.length cc, .slice ma ms.length mc, .slice st.a st.xs.length st.c, .slice (some ⟨b0, off0, none⟩) al.length ac], .int .i64 n] _ _
  unfold Gives
  cases b1 with
  | true =>
    go_enter Tryz.func34, Tryz.ntmps34
    go_wp2_with (first | (go_at_call 28; refine (g1.out _).go.mono ?_; rintro e w' ⟨rfl, xw, rfl⟩) | fail)
    go_ret
    exact ⟨ret_int (by rw [HE.out]; rfl), END⟩
  | false =>
    have HT : Hid (R = if (al.take n).any (fun y => bEq ys y.aid.xs) = true then 13 else if b2 = true ∨ b3 = true then 2 else if cI = true ∨ cV < 4 then 4 else if mI = true then 0 else 22) := hid (HE.out.trans rfl)
    clear HE
    go_enter Tryz.func34, Tryz.ntmps34
    go_wp2_with (first | (go_at_call 28; refine (g1.out _).go.mono ?_; rintro e w' ⟨rfl, xw, rfl⟩) | fail)
    refine gen_v (fun V => Below w.heap.size w V ∧ w.heap.size + 1 < V.heap.size ∧ (∀ i v, (#[.slice aid.a aid.xs.length aid.c, .int .i64 mj, .int .i64 mn, .slice im.a im.xs.length im.c, .slice ca cs.length cc, .slice ma ms.length mc, .slice st.a st.xs.length st.c, .slice (some ⟨b0, off0, none⟩) al.length ac] : Array Value)[i]? = some v → V.cell? ⟨w.heap.size, i, none⟩ = some v) ∧ (∀ i v, (#[.slice ya ys.length yc, .int .i64 xc, .int .i64 xi] : Array Value)[i]? = some v → V.cell? ⟨w.heap.size + 1, i, none⟩ = some v)) ⟨END, InW.lt, ?_, ?_⟩ ?_
    · intro i v h
      simp only [Ext.cell, alloc_cell_in]
      exact pk_cells w ⟨aid, mj, mn, im, ⟨ca, cc, cs⟩, ⟨ma, mc, ms⟩, st, ⟨some ⟨b0, off0, none⟩, ac, al⟩⟩ 29 i v h
    · intro i v h
      simp only [Ext.cell]
      have e : w.heap.size + 1 = (w.alloc (.cells #[.slice aid.a aid.xs.length aid.c, .int .i64 mj, .int .i64 mn, .slice im.a im.xs.length im.c, .slice ca cs.length cc, .slice ma ms.length mc, .slice st.a st.xs.length st.c, .slice (some ⟨b0, off0, none⟩) al.length ac] 29)).heap.size := by simp
      rw [e, World.cell?_alloc_new]
      exact h
    rintro V ⟨hwV, hV, hk0, hq0⟩
    have HW := hid hwV
    have k4 := hk0 4 _ rfl
    have k5 := hk0 5 _ rfl
    have k7 := hk0 7 _ rfl
    have y0 := hq0 0 _ rfl
    have y1 := hq0 1 _ rfl
    have y2 := hq0 2 _ rfl
    have HI := hid (ho1.mono hwV)
    have HJ := hid (ho2.mono hwV)
    have HK := hid (ho3.mono hwV)
    have HO := hid (hxo.mono hwV)
    haveI : InW w.heap.size V := ⟨by omega⟩
    haveI : InW (w.heap.size + 1) V := ⟨hV⟩
    clear hwV ho1 ho2 ho3 hxo hk0 hq0 g1 h0 h1 h2
    go_loopw [6] (fun i wr => ∃ (k : Nat) (z : Ext V), k ≤ n ∧ i = .int .i64 k ∧ Hid (∀ (j : Nat) (u : Ap), j < k → al[j]? = some u → bEq ys u.aid.xs = false) ∧ wr = z.val) (fun i _ => n - (intOf i).toNat)
    case atStart => exact ⟨0, ⟨V, Below.refl _ _⟩, Nat.zero_le _, rfl, hid (fun _ _ h => absurd h (by omega)), rfl⟩
    case round =>
      obtain ⟨k, z, hk, rfl, HZ, rfl⟩ := hrel
      by_cases hlt : k < n
      · obtain ⟨u, hu⟩ := getElem?_of_lt (show k < al.length by omega)
        obtain ⟨huk, b, off, hba, hbl, hcu⟩ := HI.out.at_ k u hu
        simp only [Option.some.injEq, Addr.mk.injEq] at hba
        obtain ⟨rfl, rfl, _⟩ := hba
        have HU := hid hu
        obtain ⟨⟨ua, uc, us⟩, u1, u2⟩ := u
        have d0 := hcu 0 _ rfl; have d1 := hcu 1 _ rfl; have d2 := hcu 2 _ rfl; simp only [Nat.add_zero] at d0
        have HUO := hid huk.1
        simp only at d0 d1 d2 HUO
        obtain ⟨bS, eS⟩ : ∃ bS, bS = bEq ys us := ⟨_, rfl⟩
        have gS : Hid (∀ W : World, Below V.heap.size V W → Gives Tryz.prog 16 #[.slice ya ys.length yc, .slice ua us.length uc] W (.bool bS)) := fun W h => by rw [eS]; exact rsame_any ⟨ya, yc, ys⟩ ⟨ua, uc, us⟩ W (HO.out.mono h) (HUO.out.mono h)
        have ES := hid eS.symm
        have HJ2 := hid hlt
        haveI : InW b0 V := ⟨hbl⟩
        clear eS hcu huk hu d1 d2
        have hj1 : (0 : Int) ≤ (k : Int) := by omega
        have hj2 : (k : Int) < (al.length : Int) := by omega
        have hj3 : (k : Int) < (n : Int) := by omega
        cases bS with
        | true =>
          go_wp2_with fail
          refine wp_region_ext (by kernel_rfl) (by kernel_rfl) ?_; (repeat (go_big_quiet_step ((go_at_call 16; refine (gS.out _ ENDX).at)))); refine wpQuiet_nil ?_; intro xw
          go_wp2_with fail
          go_ret
          exact ⟨ret_int (by rw [HT.out, any_take_hit HJ2.out HU.out ES.out]; rfl), ((HW).out.trans (Below.mono (show Below V.heap.size V _ from ENDX) (by have := (HW).out.size; omega)))⟩
        | false =>
          go_wp2_with fail
          refine wp_region_ext (by kernel_rfl) (by kernel_rfl) ?_; (repeat (go_big_quiet_step ((go_at_call 16; refine (gS.out _ ENDX).at)))); refine wpQuiet_nil ?_; intro xw
          go_wp2_with fail
          go_roundw
          case rel => exact ⟨k + 1, ⟨_, ENDX⟩, by omega, by go_num, hid (fun n u hn hu => by
              rcases Nat.lt_succ_iff_lt_or_eq.1 hn with h | rfl
              · exact HZ.out n u h hu
              · have h1 := HU.out.symm.trans hu; cases h1; exact ES.out), rfl⟩
          case measure => simp [intOf]; omega
      · obtain rfl : k = n := by omega
        have hX := any_take_miss (k := k) (f := fun y : Ap => bEq ys y.aid.xs) (xs := al) HZ.out
        have HT2 : Hid (R = if b2 = true ∨ b3 = true then 2 else if cI = true ∨ cV < 4 then 4 else if mI = true then 0 else 22) := hid (HT.out.trans (by rw [hX]; rfl))
        clear HT HZ hX
        cases b2 with
        | true =>
          go_wp2_with (first | (go_at_call 65; (with_reducible refine (g2.out _).go.mono ?_); rintro e w' ⟨rfl, xw, rfl⟩) | (go_at_call 65; (with_reducible refine (g3.out _).go.mono ?_); rintro e w' ⟨rfl, xw, rfl⟩) | fail)
          go_ret
          exact ⟨ret_int (by rw [HT2.out]; rfl), ((HW).out.trans (Below.mono (show Below V.heap.size V _ from ENDX) (by have := (HW).out.size; omega)))⟩
        | false =>
          cases b3 with
          | true =>
            go_wp2_with (first | (go_at_call 65; (with_reducible refine (g2.out _).go.mono ?_); rintro e w' ⟨rfl, xw, rfl⟩) | (go_at_call 65; (with_reducible refine (g3.out _).go.mono ?_); rintro e w' ⟨rfl, xw, rfl⟩) | fail)
            go_ret
            exact ⟨ret_int (by rw [HT2.out]; rfl), ((HW).out.trans (Below.mono (show Below V.heap.size V _ from ENDX) (by have := (HW).out.size; omega)))⟩
          | false =>
            obtain ⟨jc, c, rfl, hjc, hcI, hcV⟩ := HQ2.out rfl
            obtain ⟨jm, m, rfl, hjm, hmI⟩ := HQ3.out rfl
            have HT3 : Hid (R = if cI = true ∨ cV < 4 then 4 else if mI = true then 0 else 22) := hid (HT2.out.trans rfl)
            clear HT2 HQ2 HQ3
            obtain ⟨hco, bC, offC, hbC, hlC, hcC⟩ := HJ.out.at_ jc c hjc
            obtain ⟨hmo, bM, offM, hbM, hlM, hcM⟩ := HK.out.at_ jm m hjm
            simp only at hbC hbM
            subst hbC
            subst hbM
            have hj1 := (List.getElem?_eq_some_iff.1 hjc).1
            have hj2 := (List.getElem?_eq_some_iff.1 hjm).1
            have c1 : (0 : Int) ≤ (jc : Int) := by omega
            have c2 : (jc : Int) < (cs.length : Int) := by omega
            have c3 : (0 : Int) ≤ (jm : Int) := by omega
            have c4 : (jm : Int) < (ms.length : Int) := by omega
            haveI : InW bC V := ⟨hlC⟩
            haveI : InW bM V := ⟨hlM⟩
            have H4 := HQ4.out m (List.mem_of_getElem? hjm)
            have hpo := hmo.params
            obtain ⟨csu, cI', cex, cfi, ⟨va, vc, vs⟩, cim⟩ := c
            obtain ⟨mst, mab, mcl, ⟨pa, pc, ps⟩, ⟨rk, rp, rc⟩, mlo, msk, mco, mhs⟩ := m
            simp only at hcI hcV H4 hpo
            subst hcI hcV
            have s0 := hcC 0 _ rfl; have s1 := hcC 1 _ rfl; have s2 := hcC 2 _ rfl; have s3 := hcC 3 _ rfl; have s4 := hcC 4 _ rfl; have s5 := hcC 5 _ rfl; have s6 := hcC 6 _ rfl; simp only [Nat.add_zero] at s0
            have t0 := hcM 0 _ rfl; have t1 := hcM 1 _ rfl; have t2 := hcM 2 _ rfl; have t3 := hcM 3 _ rfl; have t4 := hcM 4 _ rfl; have t5 := hcM 5 _ rfl; have t6 := hcM 6 _ rfl; have t7 := hcM 7 _ rfl; have t8 := hcM 8 _ rfl; have t9 := hcM 9 _ rfl; have t10 := hcM 10 _ rfl; simp only [Nat.add_zero] at t0
            simp only at s2 s5
            simp only at t0 t1 t2 t3 t4 t5 t6 t7 t8 t9 t10
            clear hcC hcM hco hmo hjc hjm HQ4
            by_cases hv : vs.length < 4
            · have HV := hid hv
              cases cI
              all_goals
                go_wp2_with (first | (go_at_call 65; (with_reducible refine (g2.out _).go.mono ?_); rintro e w' ⟨rfl, xw, rfl⟩) | (go_at_call 65; (with_reducible refine (g3.out _).go.mono ?_); rintro e w' ⟨rfl, xw, rfl⟩) | fail)
                go_ret
                exact ⟨ret_int (by rw [HT3.out, if_pos (.inr HV.out)]), ((HW).out.trans (Below.mono (show Below V.heap.size V _ from ENDX) (by have := (HW).out.size; omega)))⟩
            cases cI with
            | true =>
              go_wp2_with (first | (go_at_call 65; (with_reducible refine (g2.out _).go.mono ?_); rintro e w' ⟨rfl, xw, rfl⟩) | (go_at_call 65; (with_reducible refine (g3.out _).go.mono ?_); rintro e w' ⟨rfl, xw, rfl⟩) | fail)
              go_ret
              exact ⟨ret_int (by rw [HT3.out]; simp), ((HW).out.trans (Below.mono (show Below V.heap.size V _ from ENDX) (by have := (HW).out.size; omega)))⟩
            | false =>
              have HT4 : Hid (R = if mI = true then 0 else 22) := hid (HT3.out.trans (if_neg (by simp; omega)))
              have hv' : ¬ (vs.length : Int) < 4 := by omega
              clear HT3
              have H22 : Hid (mI = false → R = 22) := hid (fun h => by rw [HT4.out, h]; rfl)
              have H0 : Hid (mI = true → R = 0) := hid (fun h => by rw [HT4.out, h]; rfl)
              clear HT4
              cases mst with
              | false =>
                have hF : mI = false := by
                  rw [hmI]
                  have := H4 ((ps[0]?.map Ty.k).getD 0) (fun t ht => by rw [ht]; rfl)
                  cases hb : instB _
                  · rfl
                  · have := this.1 hb; simp at this
                have HR := hid (H22.out hF)
                clear H4 hmI
                go_wp2_with (first | (go_at_call 65; (with_reducible refine (g2.out _).go.mono ?_); rintro e w' ⟨rfl, xw, rfl⟩) | (go_at_call 65; (with_reducible refine (g3.out _).go.mono ?_); rintro e w' ⟨rfl, xw, rfl⟩) | fail)
                all_goals
                  go_ret
                  exact ⟨ret_int HR.out.symm, ((HW).out.trans (Below.mono (show Below V.heap.size V _ from ENDX) (by have := (HW).out.size; omega)))⟩
              | true =>
                by_cases hp1 : ps.length = 1
                · obtain ⟨t, rfl⟩ := List.length_eq_one_iff.1 hp1
                  obtain ⟨_, bP, offP, hbP, hlP, hcP⟩ := hpo.at_ 0 t rfl
                  simp only at hbP
                  subst hbP
                  have HX : mI = true ↔ t.k = 2 ∧ rk = 5 ∧ rp = 255 ∧ rc = 0 := by
                    rw [hmI, H4 t.k (fun u hu => by simp at hu; rw [hu])]
                    simp
                  have HF := hid (fun h : ¬ (t.k = 2 ∧ rk = 5 ∧ rp = 255 ∧ rc = 0) => H22.out (by cases hb : mI; rfl; exact absurd (HX.1 hb) h))
                  have HG := hid (fun h : t.k = 2 ∧ rk = 5 ∧ rp = 255 ∧ rc = 0 => H0.out (HX.2 h))
                  obtain ⟨tk, tp, tc⟩ := t
                  simp only at HF HG
                  haveI : InW bP V := ⟨hlP⟩
                  have r0 := hcP 0 _ rfl; have r1 := hcP 1 _ rfl; have r2 := hcP 2 _ rfl; simp only [Nat.add_zero] at r0
                  try simp only [Nat.zero_mul, Nat.add_zero] at r0
                  clear HX hmI H4 hcP hpo hp1 H0 H22 r1 r2
                  by_cases hr : rk = 5 ∧ rp = 255 ∧ rc = 0
                  · by_cases ht : tk = 2
                    · have HR := hid (HG.out ⟨ht, hr⟩)
                      obtain ⟨rfl, rfl, rfl⟩ := hr
                      subst ht
                      clear HF HG
                      go_wp2_with (first | (go_at_call 65; (with_reducible refine (g2.out _).go.mono ?_); rintro e w' ⟨rfl, xw, rfl⟩) | (go_at_call 65; (with_reducible refine (g3.out _).go.mono ?_); rintro e w' ⟨rfl, xw, rfl⟩) | fail)
                      all_goals
                        go_ret
                        exact ⟨ret_int HR.out.symm, ((HW).out.trans (Below.mono (show Below V.heap.size V _ from ENDX) (by have := (HW).out.size; omega)))⟩
                    · have HR := hid (HF.out fun h => ht h.1)
                      have ht2 : (tk != 2) = true := by simp [ht]
                      clear HF HG hr ht
                      go_wp2_with (first | (go_at_call 65; (with_reducible refine (g2.out _).go.mono ?_); rintro e w' ⟨rfl, xw, rfl⟩) | (go_at_call 65; (with_reducible refine (g3.out _).go.mono ?_); rintro e w' ⟨rfl, xw, rfl⟩) | fail)
                      all_goals
                        go_ret
                        exact ⟨ret_int HR.out.symm, ((HW).out.trans (Below.mono (show Below V.heap.size V _ from ENDX) (by have := (HW).out.size; omega)))⟩
                  · have HR := hid (HF.out fun h => hr h.2)
                    clear HF HG
                    go_wp2_with (first | (go_at_call 65; (with_reducible refine (g2.out _).go.mono ?_); rintro e w' ⟨rfl, xw, rfl⟩) | (go_at_call 65; (with_reducible refine (g3.out _).go.mono ?_); rintro e w' ⟨rfl, xw, rfl⟩) | fail)
                    all_goals
                      first
                        | (exfalso; omega)
                        | (go_ret; exact ⟨ret_int HR.out.symm, ((HW).out.trans (Below.mono (show Below V.heap.size V _ from ENDX) (by have := (HW).out.size; omega)))⟩)
                · have hF : mI = false := by
                    rw [hmI]
                    have := H4 ((ps[0]?.map Ty.k).getD 0) (fun t ht => by rw [ht]; rfl)
                    cases hb : instB _
                    · rfl
                    · have := this.1 hb; simp at this; omega
                  have HR := hid (H22.out hF)
                  have hp2 : ((ps.length : Int) != 1) = true := by simp only [bne_iff_ne, ne_eq]; omega
                  clear H4 hmI
                  go_wp2_with (first | (go_at_call 65; (with_reducible refine (g2.out _).go.mono ?_); rintro e w' ⟨rfl, xw, rfl⟩) | (go_at_call 65; (with_reducible refine (g3.out _).go.mono ?_); rintro e w' ⟨rfl, xw, rfl⟩) | fail)
                  all_goals
                    go_ret
                    exact ⟨ret_int HR.out.symm, ((HW).out.trans (Below.mono (show Below V.heap.size V _ from ENDX) (by have := (HW).out.size; omega)))⟩
end Go.Proofs.YthagkijplklemaaGreatDoor
end
