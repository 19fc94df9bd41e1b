/- The reference's Check. -/
import Derived.Test.YthagkijplklemaaGreatDoorS42
import Derived.Test.YthagkijplklemaaGreatDoorS11
import Derived.Test.YthagkijplklemaaGreatDoorS12
section
namespace Go.Proofs.YthagkijplklemaaGreatDoor
open Go.ChangeShapes Go.WideShapes Go.ChangeAt Go.RowKit Go.Sc
def thenE (a b : Int) : Int := if a = 0 then b else a
theorem thenE_zero {b : Int} : thenE 0 b = b := rfl
theorem thenE_nz {a b : Int} (h : ¬ a = 0) : thenE a b = a := if_neg h
theorem thenE_eq0 {a b : Int} (h : thenE a b = 0) : a = 0 ∧ b = 0 := by
  unfold thenE at h
  split at h
  · exact ⟨by assumption, h⟩
  · exact absurd h (by assumption)
theorem firstE_app {α : Type} {F : Nat → α → Int} : ∀ (a b : List α) (n : Nat), firstE F n (a ++ b) = if firstE F n a = 0 then firstE F (n + a.length) b else firstE F n a
  | [], b, n => by simp [firstE]
  | x :: a, b, n => by
    have e : n + (x :: a).length = n + 1 + a.length := by rw [List.length_cons]; omega
    rw [List.cons_append, firstE, firstE, firstE_app a b (n + 1), e]
    by_cases h : F n x = 0
    · simp only [if_pos h]
    · simp only [if_neg h]
theorem firstE_next {α : Type} {F : Nat → α → Int} {xs : List α} {k : Nat} {y : α} (h : firstE F 0 (xs.take k) = 0) (hy : xs[k]? = some y) : firstE F 0 (xs.take (k + 1)) = F k y := by
  have hk := (List.getElem?_eq_some_iff.1 hy).1
  rw [List.take_add_one, hy, firstE_app, if_pos h, Nat.zero_add, List.length_take, Nat.min_eq_left (by omega)]
  show firstE F k [y] = F k y
  rw [firstE]
  split
  · rename_i h0; rw [h0]; rfl
  · rfl
theorem firstE_stop {α : Type} {F : Nat → α → Int} {xs : List α} {k : Nat} (h : ¬ firstE F 0 (xs.take k) = 0) : firstE F 0 (xs.take k) = firstE F 0 xs := by
  conv => rhs; rw [← List.take_append_drop k xs, firstE_app, if_neg h]
/-- One step of a loop that stops at the first error. -/
theorem thenE_next {α : Type} {F : Nat → α → Int} {xs : List α} {k : Nat} {y : α} {e c : Int} (h : c = thenE e (firstE F 0 (xs.take k))) (hc : c = 0) (hy : xs[k]? = some y) : F k y = thenE e (firstE F 0 (xs.take (k + 1))) := by
  obtain ⟨h1, h2⟩ := thenE_eq0 (h.symm.trans hc)
  rw [h1, thenE_zero, firstE_next h2 hy]
theorem thenE_end {α : Type} {F : Nat → α → Int} {xs : List α} {k : Nat} {e c : Int} (h : c = thenE e (firstE F 0 (xs.take k))) (hk : ¬ c = 0 ∨ k = xs.length) : c = thenE e (firstE F 0 xs) := by
  rcases hk with hk | rfl
  · rw [h]
    by_cases h0 : e = 0
    · subst h0
      rw [thenE_zero] at h ⊢
      rw [h] at hk
      rw [thenE_zero, firstE_stop hk]
    · rw [thenE_nz h0, thenE_nz h0]
  · rw [h, List.take_length]
theorem partsE_then (p : Pk) : partsE p = thenE (thenE (thenE (thenE (thenE (firstE (fun k x => impE p k x) 0 p.imports.xs) (firstE (fun k x => clsE p k x) 0 p.classes.xs)) (firstE (fun _ x => metE p x) 0 p.methods.xs)) (if allUsable p p.statics.xs = true then 0 else 22)) (firstE (fun k x => appE p k x) 0 p.applets.xs)) (if 2048 < (pkB p).length then 3 else 0) := by
  unfold partsE thenE
  grind
theorem met_usable {p : Pk} {m : Me} (h : metE p m = 0) : allUsable p m.params.xs = true := by
  unfold metE at h
  split at h
  · cases h
  · split at h
    · cases h
    · split at h
      · cases h
      · rename_i hn
        cases hb : allUsable p m.params.xs
        · exact absurd (.inl hb) hn
        · rfl
set_option maxRecDepth 100000 in
set_option maxHeartbeats 4000000 in
theorem rcheck28_any (p : Pk) (w : World) (hp : Hid (p.Ok w)) : Gives Tryz.prog 13 #[p.v] w (.int .i64 (checkE p)) := by
  obtain ⟨b0, e0⟩ : ∃ b, isName p.aid.xs.length = !b := ⟨!isName p.aid.xs.length, by simp⟩
  obtain ⟨b1, e1⟩ : ∃ b, isByte p.major = !b := ⟨!isByte p.major, by simp⟩
  obtain ⟨b2, e2⟩ : ∃ b, isByte p.minor = !b := ⟨!isByte p.minor, by simp⟩
  have g0 : Hid (∀ W : World, Gives Tryz.prog 28 #[.slice p.aid.a p.aid.xs.length p.aid.c] W (.bool (!b0))) := hid fun W => by rw [← e0]; exact risName_any _ _ _ W
  have g1 : Hid (∀ W : World, Gives Tryz.prog 29 #[.int .i64 p.major] W (.bool (!b1))) := hid fun W => by rw [← e1]; exact risByte_any _ W
  have g2 : Hid (∀ W : World, Gives Tryz.prog 29 #[.int .i64 p.minor] W (.bool (!b2))) := hid fun W => by rw [← e2]; exact risByte_any _ W
  have hE : checkE p = if b0 = true then 1 else if b1 = true ∨ b2 = true then 2 else if 4 < p.imports.xs.length ∨ 32 < p.classes.xs.length ∨ 64 < p.methods.xs.length ∨ 16 < p.statics.xs.length ∨ 32 < p.applets.xs.length then 3 else partsE p := by
    unfold checkE
    rw [e0, e1, e2]
    cases b0 <;> cases b1 <;> cases b2 <;> simp
  obtain ⟨F1, hF1⟩ : ∃ F : Nat → Cl → Int, F = fun (k : Nat) x => clsE p k x := ⟨_, rfl⟩
  obtain ⟨F2, hF2⟩ : ∃ F : Nat → Me → Int, F = fun _ x => metE p x := ⟨_, rfl⟩
  obtain ⟨F3, hF3⟩ : ∃ F : Nat → Ap → Int, F = fun k x => appE p k x := ⟨_, rfl⟩
  obtain ⟨u, hu⟩ : ∃ u, allUsable p p.statics.xs = !u := ⟨!allUsable p p.statics.xs, by simp⟩
  obtain ⟨n, hn⟩ : ∃ n, n = (pkB p).length := ⟨_, rfl⟩
  obtain ⟨E1, h1⟩ : ∃ e, e = firstE (fun k x => impE p k x) 0 p.imports.xs := ⟨_, rfl⟩
  obtain ⟨E2, h2⟩ : ∃ e, e = thenE E1 (firstE F1 0 p.classes.xs) := ⟨_, rfl⟩
  obtain ⟨E3, h3⟩ : ∃ e, e = thenE E2 (firstE F2 0 p.methods.xs) := ⟨_, rfl⟩
  obtain ⟨E4, h4⟩ : ∃ e, e = thenE E3 (if u = true then 22 else 0) := ⟨_, rfl⟩
  obtain ⟨E5, h5⟩ : ∃ e, e = thenE E4 (firstE F3 0 p.applets.xs) := ⟨_, rfl⟩
  have hP : partsE p = thenE E5 (if 2048 < n then 3 else 0) := by
    rw [h5, h4, h3, h2, h1, hn, hF1, hF2, hF3, partsE_then, hu]
    cases u <;> rfl
  have gI : Hid (∀ W : World, Below w.heap.size w W → Gives Tryz.prog 30 #[p.v] W (.int .i64 E1)) := hid fun W h => by rw [h1]; exact rimports_any p W (hid (hp.out.mono h))
  have gC : Hid (∀ (W : World) (k : Nat) (x : Cl), Below w.heap.size w W → p.classes.xs[k]? = some x → Gives Tryz.prog 31 #[p.v, .int .i64 k] W (.int .i64 (F1 k x))) := hid fun W k x h hx => by rw [hF1]; exact kclass_any p k x W (hid (hp.out.mono h)) (hid hx)
  have gM : Hid (∀ (W : World) (k : Nat) (x : Me), Below w.heap.size w W → p.methods.xs[k]? = some x → Gives Tryz.prog 32 #[p.v, x.v] W (.int .i64 (F2 k x))) := hid fun W k x h hx => by rw [hF2]; exact kmethod_any p x W (hid (hp.out.mono h)) (hid (eMe.mono h (hp.out.methods.at_ k x hx).1))
  have gU : Hid (∀ W : World, Below w.heap.size w W → Gives Tryz.prog 33 #[p.v, p.statics.v] W (.bool (!u))) := hid fun W h => by rw [← hu]; exact rusableL_any p p.statics W (hid (hp.out.statics.mono h))
  have hE2z : E3 = 0 → ∀ m ∈ p.methods.xs, metE p m = 0 := fun h m hm => by
    obtain ⟨j, hj⟩ := List.mem_iff_getElem?.1 hm
    have := firstE_zero (thenE_eq0 (h3 ▸ h)).2 j m hj
    rw [hF2] at this
    exact this
  have gA : Hid (∀ (W : World) (k : Nat) (x : Ap), Below w.heap.size w W → p.applets.xs[k]? = some x → E4 = 0 → Gives Tryz.prog 34 #[p.v, .int .i64 k] W (.int .i64 (F3 k x))) := hid fun W k x h hx hz => by
    rw [hF3]
    exact rapplet_any p k x W (hid (hp.out.mono h)) (hid hx) (hid fun m hm => met_usable (hE2z (thenE_eq0 (h4 ▸ hz)).1 m hm))
  have gW : Hid (∀ W : World, Below w.heap.size w W → b0 = false → counts p → E5 = 0 → n ≤ 1000000 ∧ Calls Tryz.prog 35 #[p.v] W fun e w' => ∃ (a : Option Addr) (c : Nat) (x : Ext W), e = .returned (.slice a n c) ∧ w' = x.val) := hid fun W h hb hc hz => by
    have z4 := thenE_eq0 (h5 ▸ hz)
    have z3 := thenE_eq0 (h4 ▸ z4.1)
    have z2 := thenE_eq0 (h3 ▸ z3.1)
    have z1 := thenE_eq0 (h2 ▸ z2.1)
    rw [hF1] at z1
    rw [hF2] at z2
    rw [hF3] at z4
    have hb2 := pkB_le p (by rw [hb] at e0; unfold isName at e0; simp at e0; omega) hc (h1 ▸ z1.1) z1.2 z2.2 z4.2
    rw [hn]
    exact ⟨hb2.1, ((rwrite_any p W (hid (hp.out.mono h)) (hid fun m hm => meW_of (hE2z z3.1 m hm)) hb2.1).row (pkB_byts p)).mono fun e w' ⟨a, c, x, he, hx, _, _⟩ => ⟨a, c, x, he, hx⟩⟩
  have hcl := hp.out.classes
  have hme := hp.out.methods
  have hap := hp.out.applets
  have hlc := hp.out.classes.le
  have hmc := hp.out.classes.max
  have hlm := hp.out.methods.le
  have hmm := hp.out.methods.max
  have hla := hp.out.applets.le
  have hma := hp.out.applets.max
  have hli := hp.out.imports.le
  have hmi := hp.out.imports.max
  have hls := hp.out.statics.le
  have hms := hp.out.statics.max
  rw [hP] at hE
  obtain ⟨R, hR⟩ : ∃ R, R = checkE p := ⟨_, rfl⟩
  rw [← hR] at hE ⊢
  have HE := hid hE
  have G2 := hid h2
  have G3 := hid h3
  have G4 := hid h4
  have G5 := hid h5
  clear hE hP h1 h2 h3 h4 h5 hF1 hF2 hF3 hu hn e0 e1 e2 hE2z hR hp
  obtain ⟨aid, mj, mn, im, ⟨ca, cc, cs⟩, ⟨ma, mc, ms⟩, st, ⟨aa, ac, qs⟩⟩ := p
  simp only at g0 g1 g2 gC gM gA hcl hme hap hlc hmc hlm hmm hla hma hli hmi hls hms HE G2 G3 G5
  show Gives _ _ #[.agg #[.slice aid.a aid.xs.length aid.c, .int .i64 mj, .int .i64 mn, .slice im.a im.xs.length im.c, .slice ca cs.length cc, .slice ma ms.length mc, .slice st.a st.xs.length st.c, .slice aa qs.length ac]] _ _
  unfold Gives
  go_enter Tryz.func13, Tryz.ntmps13
  cases b0 with
  | true =>
    go_wp2_with (first | (go_at_call 28; refine (g0.out _).go.mono ?_; rintro e w' ⟨rfl, xw, rfl⟩) | fail)
    go_ret
    exact ⟨ret_int (by rw [HE.out]; rfl), END⟩
  | false =>
    cases b1 with
    | true =>
      go_wp2_with (first | (go_at_call 28; refine (g0.out _).go.mono ?_; rintro e w' ⟨rfl, xw, rfl⟩) | (go_at_call 29; refine (g1.out _).go.mono ?_; rintro e w' ⟨rfl, xw, rfl⟩) | fail)
      go_ret
      exact ⟨ret_int (by rw [HE.out]; rfl), END⟩
    | false =>
      cases b2 with
      | true =>
        go_wp2_with (first | (go_at_call 28; refine (g0.out _).go.mono ?_; rintro e w' ⟨rfl, xw, rfl⟩) | (go_at_call 29; (with_reducible refine (g1.out _).go.mono ?_); rintro e w' ⟨rfl, xw, rfl⟩) | (go_at_call 29; (with_reducible refine (g2.out _).go.mono ?_); rintro e w' ⟨rfl, xw, rfl⟩) | fail)
        go_ret
        exact ⟨ret_int (by rw [HE.out]; rfl), END⟩
      | false =>
        by_cases hbig : 4 < im.xs.length ∨ 32 < cs.length ∨ 64 < ms.length ∨ 16 < st.xs.length ∨ 32 < qs.length
        · have HT : Hid (R = 3) := hid (by rw [HE.out, if_neg (by simp), if_neg (by simp), if_pos hbig])
          have HB := hid hbig
          clear hbig HE
          go_wp2_with (first | (go_at_call 28; refine (g0.out _).go.mono ?_; rintro e w' ⟨rfl, xw, rfl⟩) | (go_at_call 29; (with_reducible refine (g1.out _).go.mono ?_); rintro e w' ⟨rfl, xw, rfl⟩) | (go_at_call 29; (with_reducible refine (g2.out _).go.mono ?_); rintro e w' ⟨rfl, xw, rfl⟩) | fail)
          all_goals first
            | (go_ret; exact ⟨ret_int HT.out.symm, END⟩; done)
            | (exfalso; have := HB.out; omega)
        · have HT : Hid (R = thenE E5 (if 2048 < n then 3 else 0)) := hid (by rw [HE.out, if_neg (by simp), if_neg (by simp), if_neg hbig])
          clear HE
          have c1 : im.xs.length ≤ 4 := by omega
          have c2 : cs.length ≤ 32 := by omega
          have c3 : ms.length ≤ 64 := by omega
          have c4 : st.xs.length ≤ 16 := by omega
          have c5 : qs.length ≤ 32 := by omega
          clear hbig
          go_upto_region 7 with (first | (go_at_call 28; refine (g0.out _).go.mono ?_; rintro e w' ⟨rfl, xw, rfl⟩) | (go_at_call 29; (with_reducible refine (g1.out _).go.mono ?_); rintro e w' ⟨rfl, xw, rfl⟩) | (go_at_call 29; (with_reducible refine (g2.out _).go.mono ?_); rintro e w' ⟨rfl, xw, rfl⟩) | fail)
          refine gen_v (fun V => Below w.heap.size w V ∧ w.heap.size < V.heap.size ∧ (∀ i v, (#[.slice aid.a aid.xs.length aid.c, .int .i64 mj, .int .i64 mn, .slice im.a im.xs.length im.c, .slice ca cs.length cc, .slice ma ms.length mc, .slice st.a st.xs.length st.c, .slice aa qs.length ac] : Array Value)[i]? = some v → V.cell? ⟨w.heap.size, i, none⟩ = some v)) ⟨END, InW.lt, ?_⟩ ?_
          · intro i v h
            simp only [Ext.cell]
            rw [World.cell?_alloc_new]
            exact h
          rintro V ⟨hwV, hV, hk0⟩
          have HW := hid hwV
          have k0 := hk0 0 _ rfl; have k1 := hk0 1 _ rfl; have k2 := hk0 2 _ rfl; have k3 := hk0 3 _ rfl; have k4 := hk0 4 _ rfl; have k5 := hk0 5 _ rfl; have k6 := hk0 6 _ rfl; have k7 := hk0 7 _ rfl
          haveI : InW w.heap.size V := ⟨hV⟩
          have HM := hid (hme.mono hwV)
          clear hwV hk0 hcl hme hap g0 g1 g2
          go_upto_block 0 with (first | (go_at_call 30; (with_reducible refine (gI.out _ (HW.out.trans (Below.mono (show Below V.heap.size V _ from ENDX) (by have := HW.out.size; omega)))).go.mono ?_); rintro e w' ⟨rfl, z, rfl⟩) | fail)
          go_cut [3] (fun e wx => ∃ z : Ext V, wx = z.val ∧ e = .int .i64 E2)
          case first =>
            go_wp2_with fail
            go_loopw [3, 4] (fun e i wr => ∃ (k : Nat) (c : Int) (z : Ext V), k ≤ cs.length ∧ i = .int .i64 k ∧ e = .int .i64 c ∧ Hid (c = thenE E1 (firstE F1 0 (cs.take k))) ∧ wr = z.val) (fun _ i _ => cs.length - (intOf i).toNat)
            case atStart => exact ⟨0, E1, z, Nat.zero_le _, rfl, rfl, hid (by simp [firstE, thenE]), rfl⟩
            case round =>
              obtain ⟨k, c, z, hk, rfl, rfl, HC, rfl⟩ := hrel
              by_cases hlt : k < cs.length
              · by_cases hc : c = 0
                · have HZ := hid hc
                  subst hc
                  obtain ⟨y, hy⟩ := getElem?_of_lt hlt
                  have hX := hid (thenE_next HC.out rfl hy)
                  have hk1 : (0 : Int) ≤ (k : Int) := by omega
                  have hk2 : (k : Int) < (cs.length : Int) := by omega
                  (have HY := hid hy; clear hy; go_wp2_with (first | (go_at_call 31; (with_reducible refine (gC.out _ k y (HW.out.trans (Below.mono (show Below V.heap.size V _ from ENDX) (by have := HW.out.size; omega))) HY.out).go.mono ?_); rintro e w' ⟨rfl, xw, rfl⟩) | fail))
                  go_roundw
                  case rel => exact ⟨k + 1, F1 k y, ⟨_, ENDX⟩, by omega, by go_num, rfl, hX, rfl⟩
                  case measure => simp [intOf]; omega
                · have hc2 : (c == 0) = false := by simp [hc]
                  have HX := hid (thenE_end HC.out (.inl hc))
                  clear hc
                  go_wp2_with fail
                  go_meet
                  exact ⟨z, rfl, by rw [HX.out, ← G2.out]⟩
              · obtain rfl : k = cs.length := by omega
                have HX := hid (thenE_end HC.out (.inr rfl))
                go_wp2_with fail
                go_meet
                exact ⟨z, rfl, by rw [HX.out, ← G2.out]⟩
          case rest =>
            obtain ⟨z, rfl, rfl⟩ := hcut
            go_upto_block 2 with fail
            go_cut [3] (fun e wx => ∃ z : Ext V, wx = z.val ∧ e = .int .i64 E3)
            case first =>
              go_wp2_with fail
              go_loopw [3, 5] (fun e i wr => ∃ (k : Nat) (c : Int) (z : Ext V), k ≤ ms.length ∧ i = .int .i64 k ∧ e = .int .i64 c ∧ Hid (c = thenE E2 (firstE F2 0 (ms.take k))) ∧ wr = z.val) (fun _ i _ => ms.length - (intOf i).toNat)
              case atStart => exact ⟨0, E2, z, Nat.zero_le _, rfl, rfl, hid (by simp [firstE, thenE]), rfl⟩
              case round =>
                obtain ⟨k, c, z, hk, rfl, rfl, HC, rfl⟩ := hrel
                by_cases hlt : k < ms.length
                · by_cases hc : c = 0
                  · have HZ := hid hc
                    subst hc
                    obtain ⟨y, hy⟩ := getElem?_of_lt hlt
                    have hX := hid (thenE_next HC.out rfl hy)
                    have hk1 : (0 : Int) ≤ (k : Int) := by omega
                    have hk2 : (k : Int) < (ms.length : Int) := by omega
                    (obtain ⟨hok, b, off, hba, hbl, hc⟩ := HM.out.at_ k y hy; simp only at hba; subst hba; haveI : InW b V := ⟨hbl⟩; have h0 : V.cell? ⟨b, off + k * 11, none⟩ = some (.bool y.static) := (by have := hc 0 _ rfl; simpa using this); have h1 : V.cell? ⟨b, off + k * 11 + 1, none⟩ = some (.bool y.abs) := (hc 1 _ rfl); have h2 : V.cell? ⟨b, off + k * 11 + 2, none⟩ = some (.int .i64 y.cls) := (hc 2 _ rfl); have h3 : V.cell? ⟨b, off + k * 11 + 3, none⟩ = some (.slice y.params.a y.params.xs.length y.params.c) := (hc 3 _ rfl); have h4 : V.cell? ⟨b, off + k * 11 + 4, none⟩ = some (.int .i64 y.result.k) := (hc 4 _ rfl); have h5 : V.cell? ⟨b, off + k * 11 + 5, none⟩ = some (.int .i64 y.result.c.p) := (hc 5 _ rfl); have h6 : V.cell? ⟨b, off + k * 11 + 6, none⟩ = some (.int .i64 y.result.c.c) := (hc 6 _ rfl); have h7 : V.cell? ⟨b, off + k * 11 + 7, none⟩ = some (.int .i64 y.locals) := (hc 7 _ rfl); have h8 : V.cell? ⟨b, off + k * 11 + 8, none⟩ = some (.int .i64 y.stack) := (hc 8 _ rfl); have h9 : V.cell? ⟨b, off + k * 11 + 9, none⟩ = some (.slice y.code.a y.code.xs.length y.code.c) := (hc 9 _ rfl); have h10 : V.cell? ⟨b, off + k * 11 + 10, none⟩ = some (.slice y.hs.a y.hs.xs.length y.hs.c) := (hc 10 _ rfl); have HY := hid hy; clear hc hok hy; go_wp2_with fail; (refine wp_region_ext (by kernel_rfl) (by kernel_rfl) ?_; (repeat (go_big_quiet_step ((go_at_call 32; refine (gM.out _ k y (HW.out.trans (Below.mono (show Below V.heap.size V _ from ENDX) (by have := HW.out.size; omega))) HY.out).at)))); refine wpQuiet_nil ?_; intro xw); go_wp2_with fail)
                    go_roundw
                    case rel => exact ⟨k + 1, F2 k y, ⟨_, ENDX⟩, by omega, by go_num, rfl, hX, rfl⟩
                    case measure => simp [intOf]; omega
                  · have hc2 : (c == 0) = false := by simp [hc]
                    have HX := hid (thenE_end HC.out (.inl hc))
                    clear hc
                    go_wp2_with fail
                    go_meet
                    exact ⟨z, rfl, by rw [HX.out, ← G3.out]⟩
                · obtain rfl : k = ms.length := by omega
                  have HX := hid (thenE_end HC.out (.inr rfl))
                  go_wp2_with fail
                  go_meet
                  exact ⟨z, rfl, by rw [HX.out, ← G3.out]⟩
            case rest =>
              obtain ⟨z, rfl, rfl⟩ := hcut
              by_cases hz3 : E3 = 0
              · subst hz3
                go_upto_if 91 with (first | (go_at_call 33; (with_reducible refine (gU.out _ (HW.out.trans (Below.mono (show Below V.heap.size V _ from ENDX) (by have := HW.out.size; omega)))).go.mono ?_); rintro e w' ⟨rfl, xw, rfl⟩) | fail)
                go_cut [3] (fun e wx => ∃ z : Ext V, wx = z.val ∧ e = .int .i64 E4)
                case first =>
                  cases u
                  all_goals
                    go_wp2_with fail
                    go_meet
                    exact ⟨⟨_, ENDX⟩, rfl, by rw [G4.out]; first | rfl | exact congrArg (Value.int .i64) (thenE_nz HZ3.out).symm⟩
                case rest =>
                  obtain ⟨z, rfl, rfl⟩ := hcut
                  go_upto_block 4 with fail
                  go_cut [3] (fun e wx => ∃ z : Ext V, wx = z.val ∧ e = .int .i64 E5)
                  case first =>
                    go_wp2_with fail
                    go_loopw [3, 6] (fun e i wr => ∃ (k : Nat) (c : Int) (z : Ext V), k ≤ qs.length ∧ i = .int .i64 k ∧ e = .int .i64 c ∧ Hid (c = thenE E4 (firstE F3 0 (qs.take k))) ∧ wr = z.val) (fun _ i _ => qs.length - (intOf i).toNat)
                    case atStart => exact ⟨0, E4, z, Nat.zero_le _, rfl, rfl, hid (by simp [firstE, thenE]), rfl⟩
                    case round =>
                      obtain ⟨k, c, z, hk, rfl, rfl, HC, rfl⟩ := hrel
                      by_cases hlt : k < qs.length
                      · by_cases hc : c = 0
                        · have HZ := hid hc
                          subst hc
                          obtain ⟨y, hy⟩ := getElem?_of_lt hlt
                          have hX := hid (thenE_next HC.out rfl hy)
                          have hk1 : (0 : Int) ≤ (k : Int) := by omega
                          have hk2 : (k : Int) < (qs.length : Int) := by omega
                          (have HY := hid hy; have HE4 := hid (thenE_eq0 HC.out.symm).1; clear hy; go_wp2_with (first | (go_at_call 34; (with_reducible refine (gA.out _ k y (HW.out.trans (Below.mono (show Below V.heap.size V _ from ENDX) (by have := HW.out.size; omega))) HY.out HE4.out).go.mono ?_); rintro e w' ⟨rfl, xw, rfl⟩) | fail))
                          go_roundw
                          case rel => exact ⟨k + 1, F3 k y, ⟨_, ENDX⟩, by omega, by go_num, rfl, hX, rfl⟩
                          case measure => simp [intOf]; omega
                        · have hc2 : (c == 0) = false := by simp [hc]
                          have HX := hid (thenE_end HC.out (.inl hc))
                          clear hc
                          go_wp2_with fail
                          go_meet
                          exact ⟨z, rfl, by rw [HX.out, ← G5.out]⟩
                      · obtain rfl : k = qs.length := by omega
                        have HX := hid (thenE_end HC.out (.inr rfl))
                        go_wp2_with fail
                        go_meet
                        exact ⟨z, rfl, by rw [HX.out, ← G5.out]⟩
                  case rest =>
                    obtain ⟨z, rfl, rfl⟩ := hcut
                    by_cases hz5 : E5 = 0
                    · have HX : Hid (R = if 2048 < n then 3 else 0) := hid (by rw [HT.out, hz5]; rfl)
                      have hn := (gW.out V HW.out (by simp) ⟨c1, c2, c3, c4, c5⟩ hz5).1
                      subst hz5
                      have hgw := hid (fun (W : World) (h : Below w.heap.size w W) => gW.out W h (by simp) ⟨c1, c2, c3, c4, c5⟩ (by simp))
                      by_cases hb : 2048 < n
                      · have HX2 : Hid (R = 3) := hid (HX.out.trans (if_pos hb))
                        have hb' : (2048 : Int) < (n : Int) := by omega
                        go_wp2_with (first | (go_at_call 35; (with_reducible refine (hgw.out _ (HW.out.trans (Below.mono (show Below V.heap.size V _ from ENDX) (by have := HW.out.size; omega)))).2.mono ?_); rintro e w' ⟨aw, cw, xw, rfl, rfl⟩) | fail)
                        go_ret
                        exact ⟨ret_int HX2.out.symm, (HW.out.trans (Below.mono (show Below V.heap.size V _ from ENDX) (by have := HW.out.size; omega)))⟩
                      · have HX2 : Hid (R = 0) := hid (HX.out.trans (if_neg hb))
                        have hb' : ¬ (2048 : Int) < (n : Int) := by omega
                        go_wp2_with (first | (go_at_call 35; (with_reducible refine (hgw.out _ (HW.out.trans (Below.mono (show Below V.heap.size V _ from ENDX) (by have := HW.out.size; omega)))).2.mono ?_); rintro e w' ⟨aw, cw, xw, rfl, rfl⟩) | fail)
                        go_ret
                        exact ⟨ret_int HX2.out.symm, (HW.out.trans (Below.mono (show Below V.heap.size V _ from ENDX) (by have := HW.out.size; omega)))⟩
                    · have HX : Hid (R = E5) := hid (HT.out.trans (thenE_nz hz5))
                      have hz5' : (E5 == 0) = false := by simp [hz5]
                      clear hz5
                      go_wp2_with fail
                      go_ret
                      exact ⟨ret_int HX.out.symm, (HW.out.trans (Below.mono (show Below V.heap.size V _ from ENDX) (by have := HW.out.size; omega)))⟩
              · have hz3' : (E3 == 0) = false := by simp [hz3]
                have HZ3 := hid hz3
                clear hz3
                go_upto_if 91 with fail
                go_cut [3] (fun e wx => ∃ z : Ext V, wx = z.val ∧ e = .int .i64 E4)
                case first =>
                  cases u
                  all_goals
                    go_wp2_with fail
                    go_meet
                    exact ⟨⟨_, ENDX⟩, rfl, by rw [G4.out]; first | rfl | exact congrArg (Value.int .i64) (thenE_nz HZ3.out).symm⟩
                case rest =>
                  obtain ⟨z, rfl, rfl⟩ := hcut
                  go_upto_block 4 with fail
                  go_cut [3] (fun e wx => ∃ z : Ext V, wx = z.val ∧ e = .int .i64 E5)
                  case first =>
                    go_wp2_with fail
                    go_loopw [3, 6] (fun e i wr => ∃ (k : Nat) (c : Int) (z : Ext V), k ≤ qs.length ∧ i = .int .i64 k ∧ e = .int .i64 c ∧ Hid (c = thenE E4 (firstE F3 0 (qs.take k))) ∧ wr = z.val) (fun _ i _ => qs.length - (intOf i).toNat)
                    case atStart => exact ⟨0, E4, z, Nat.zero_le _, rfl, rfl, hid (by simp [firstE, thenE]), rfl⟩
                    case round =>
                      obtain ⟨k, c, z, hk, rfl, rfl, HC, rfl⟩ := hrel
                      by_cases hlt : k < qs.length
                      · by_cases hc : c = 0
                        · have HZ := hid hc
                          subst hc
                          obtain ⟨y, hy⟩ := getElem?_of_lt hlt
                          have hX := hid (thenE_next HC.out rfl hy)
                          have hk1 : (0 : Int) ≤ (k : Int) := by omega
                          have hk2 : (k : Int) < (qs.length : Int) := by omega
                          (have HY := hid hy; have HE4 := hid (thenE_eq0 HC.out.symm).1; clear hy; go_wp2_with (first | (go_at_call 34; (with_reducible refine (gA.out _ k y (HW.out.trans (Below.mono (show Below V.heap.size V _ from ENDX) (by have := HW.out.size; omega))) HY.out HE4.out).go.mono ?_); rintro e w' ⟨rfl, xw, rfl⟩) | fail))
                          go_roundw
                          case rel => exact ⟨k + 1, F3 k y, ⟨_, ENDX⟩, by omega, by go_num, rfl, hX, rfl⟩
                          case measure => simp [intOf]; omega
                        · have hc2 : (c == 0) = false := by simp [hc]
                          have HX := hid (thenE_end HC.out (.inl hc))
                          clear hc
                          go_wp2_with fail
                          go_meet
                          exact ⟨z, rfl, by rw [HX.out, ← G5.out]⟩
                      · obtain rfl : k = qs.length := by omega
                        have HX := hid (thenE_end HC.out (.inr rfl))
                        go_wp2_with fail
                        go_meet
                        exact ⟨z, rfl, by rw [HX.out, ← G5.out]⟩
                  case rest =>
                    obtain ⟨z, rfl, rfl⟩ := hcut
                    by_cases hz5 : E5 = 0
                    · have HX : Hid (R = if 2048 < n then 3 else 0) := hid (by rw [HT.out, hz5]; rfl)
                      have hn := (gW.out V HW.out (by simp) ⟨c1, c2, c3, c4, c5⟩ hz5).1
                      subst hz5
                      have hgw := hid (fun (W : World) (h : Below w.heap.size w W) => gW.out W h (by simp) ⟨c1, c2, c3, c4, c5⟩ (by simp))
                      by_cases hb : 2048 < n
                      · have HX2 : Hid (R = 3) := hid (HX.out.trans (if_pos hb))
                        have hb' : (2048 : Int) < (n : Int) := by omega
                        go_wp2_with (first | (go_at_call 35; (with_reducible refine (hgw.out _ (HW.out.trans (Below.mono (show Below V.heap.size V _ from ENDX) (by have := HW.out.size; omega)))).2.mono ?_); rintro e w' ⟨aw, cw, xw, rfl, rfl⟩) | fail)
                        go_ret
                        exact ⟨ret_int HX2.out.symm, (HW.out.trans (Below.mono (show Below V.heap.size V _ from ENDX) (by have := HW.out.size; omega)))⟩
                      · have HX2 : Hid (R = 0) := hid (HX.out.trans (if_neg hb))
                        have hb' : ¬ (2048 : Int) < (n : Int) := by omega
                        go_wp2_with (first | (go_at_call 35; (with_reducible refine (hgw.out _ (HW.out.trans (Below.mono (show Below V.heap.size V _ from ENDX) (by have := HW.out.size; omega)))).2.mono ?_); rintro e w' ⟨aw, cw, xw, rfl, rfl⟩) | fail)
                        go_ret
                        exact ⟨ret_int HX2.out.symm, (HW.out.trans (Below.mono (show Below V.heap.size V _ from ENDX) (by have := HW.out.size; omega)))⟩
                    · have HX : Hid (R = E5) := hid (HT.out.trans (thenE_nz hz5))
                      have hz5' : (E5 == 0) = false := by simp [hz5]
                      clear hz5
                      go_wp2_with fail
                      go_ret
                      exact ⟨ret_int HX.out.symm, (HW.out.trans (Below.mono (show Below V.heap.size V _ from ENDX) (by have := HW.out.size; omega)))⟩
end Go.Proofs.YthagkijplklemaaGreatDoor
end
