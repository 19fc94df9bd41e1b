/- The reference's reader: a package. -/
import Derived.Test.YthagkijplklemaaGreatDoorS47
import Derived.Test.YthagkijplklemaaGreatDoorS09
section
namespace Go.Proofs.YthagkijplklemaaGreatDoor
open Go.ChangeShapes Go.WideShapes Go.ChangeAt Go.RowKit Go.Sc
abbrev zP : List Value := [nilV, zV, zV, nilV, nilV, nilV, nilV, nilV]
theorem ne_wrap {n m : Int} (m1 : 0 ≤ m) (m2 : m ≤ 255) (q : (n != IntKind.i64.wrap m) = true) : n ≠ m := by
  rw [IntWalk.i64_in _ (by omega)] at q; simpa using q
theorem eq_wrap {n m : Int} (m1 : 0 ≤ m) (m2 : m ≤ 255) (q : ¬ (n != IntKind.i64.wrap m) = true) : n = m := by
  rw [IntWalk.i64_in _ (by omega)] at q; simpa using q
def pkQ : Rr Pk := magicP.bind fun _ => aidP.bind fun a => numP.bind fun x => numP.bind fun y => (listP ipP).bind fun i => (listP clP).bind fun c => (listP meP).bind fun m => (listP typP).bind fun s => (listP apP).bind fun p =>
  Rr.pure ⟨.er a, x, y, .er i, .er c, .er m, .er s, .er p⟩
/-- The box of a package while it is read. -/
abbrev bP (aid : Value) (x y : Int) (i c m s q : Value) : List Value := [aid, .int .i64 x, .int .i64 y, i, c, m, s, q]
def MagL (p : Nat) (w : World) (bs : List Int) (a : Nat) (e : Int) (k : Nat) (wr : World) : Prop :=
  ∃ (a1 : Nat) (e1 : Int), Fp p w wr ∧ Rs p wr bs a1 e1 ∧ (∀ a' e', Post (magR k) bs a1 e1 () a' e' → Post magicP bs a e () a' e') ∧ (∀ i, i < 3 → wr.cell? ⟨w.heap.size + 1, i, none⟩ = some (.int .u8 (magV i))) ∧ w.heap.size + 1 < wr.heap.size ∧ BoxL wr w.heap.size zP
def CutM (p : Nat) (w : World) (bs : List Int) (a : Nat) (e : Int) (wx : World) : Prop := ∃ (a' : Nat) (e' : Int), Fp p w wx ∧ Rs p wx bs a' e' ∧ Post magicP bs a e () a' e' ∧ BoxL wx w.heap.size zP ∧ w.heap.size < wx.heap.size
theorem magV_le (k : Nat) : 0 ≤ magV k ∧ magV k ≤ 255 := by
  unfold magV
  split <;> decide
set_option maxRecDepth 20000 in
set_option maxHeartbeats 4000000 in
theorem jread_any (p : Nat) (w : World) (bs : List Int) (a : Nat) (e : Int) (hR : Hid (Rs p w bs a e)) : Reads Tryz.prog 39 #[.pointer (some ⟨p, 0, none⟩)] p w bs a e pkQ RepPk := by
  unfold Reads
  have hp := hR.out.lt
  haveI : InW p w := ⟨hp⟩
  go_enter Tryz.func39, Tryz.ntmps39
  go_upto_block 0 with fail
  go_cut [] (CutM p w bs a e)
  case first =>
    go_wp2_with fail
    go_loopw [4] (fun i wr => ∃ k : Nat, k ≤ 3 ∧ i = .int .i64 k ∧ MagL p w bs a e k wr) (fun i _ => 3 - (intOf i).toNat)
    case atStart => exact ⟨0, by omega, rfl, a, e, (by (with_reducible repeat' (first | exact Fp.refl | exact Hid.out (by assumption) | refine Fp.alloc ?_ _ | refine fp_ext _ ?_ | refine fp_px _ ?_ | refine Fp.drew ?_ | refine Fp.setCell ?_ (.inr (by omega)) _)); first | done | fail), (by (with_reducible repeat' (first | exact Hid.out (by assumption) | refine Rs.alloc ?_ _ | refine Rs.ext _ ?_ | refine Rs.drew ?_ | refine Rs.setCell ?_ (by omega) _)); first | done | fail), fun _ _ h => h, fun i hi => (by match i, hi with
      | 0, _ => simp [magV]
      | 1, _ => simp [magV]
      | 2, _ => simp [magV]), by simp, (BoxL.new w _ _).same (Below.heap_alloc _ _ _ (by simp))⟩
    case round =>
      obtain ⟨k, hk, rfl, a1, e1, hf, hRs, hP, hm, hwl, hz⟩ := hrel
      have HZ := hid hz
      have HF := hid hf
      have HR := hid hRs
      have HP := hid hP
      have HM := hid hm
      haveI : InW p wr := ⟨hRs.lt⟩
      haveI : InW (w.heap.size + 1) wr := ⟨hwl⟩
      haveI : Nq (w.heap.size + 1) p wr := ⟨by omega, by omega⟩
      clear hf hRs hP hm hz
      by_cases hlt : k < 3
      · have mk := HM.out k hlt
        obtain ⟨m, hm⟩ : ∃ m, m = magV k := ⟨_, rfl⟩
        have ml := magV_le k
        rw [← hm] at mk ml
        have HMM := hid hm
        clear hm
        obtain ⟨m1, m2⟩ := ml
        go_wp2_with fail
        go_region_held3 (fun w' => w'.cell? ⟨w.heap.size + 1, k, none⟩ = some (.int .u8 m)) (first | exact mk | (go_keep; done) | (simp [Px.cell, mk]; done)) (first | (go_at_call 75; refine (jnum_any p _ bs a1 e1 (hid (by (with_reducible repeat' (first | exact Hid.out (by assumption) | refine Rs.alloc ?_ _ | refine Rs.ext _ ?_ | refine Rs.drew ?_ | refine Rs.setCell ?_ (by omega) _)); first | done | fail))).go (fun n a2 e2 v y hx hR h1 => ?_); obtain ⟨rfl, l1n, l2n⟩ := hx.out; clear hx; have hs := y.size; (try simp at hs)) | fail)
        go_wp2_with (first | (go_at_call 40; refine (jfail_any p _ bs a2 e2 4 (hid (by (with_reducible repeat' (first | exact Hid.out (by assumption) | refine Rs.alloc ?_ _ | refine Rs.ext _ ?_ | refine Rs.drew ?_ | refine Rs.setCell ?_ (by omega) _)); first | done | fail))).mono ?_; intro en w' hF; obtain ⟨rfl, y2, e3, rfl, h3, hR⟩ := hF; have s2 := y2.size) | fail)
        · go_roundw
          case rel =>
            refine ⟨k + 1, by omega, by go_num, a2, e3, (HF.out.drew.trans y.fp).trans y2.fp, hR.out, fun a' e' h => HP.out _ _ (mag_step hlt h1.out (.inr ⟨by rw [← HMM.out]; exact ne_wrap m1 m2 (by assumption), h3⟩) h), fun i hi => ?_, by omega, (HZ.out.same (y.fp.block _ (by simp; omega) (by omega))).same (y2.fp.block _ (by omega) (by omega))⟩
            haveI : Nq (w.heap.size + 1) p y.val := ⟨by omega, by omega⟩
            haveI : Nq (w.heap.size + 1) p wr.drew := ⟨by simpa using hwl, by omega⟩
            exact (Px.cell y2 _ i).trans ((Px.cell y _ i).trans (HM.out i hi))
          case measure => simp [intOf]; omega
        · go_roundw
          case rel =>
            refine ⟨k + 1, by omega, by go_num, a2, e2, HF.out.drew.trans y.fp, hR.out, fun a' e' h => HP.out _ _ (mag_step hlt h1.out (.inl ⟨by rw [← HMM.out]; exact eq_wrap m1 m2 (by first | assumption | (simp; assumption) | simp_all), rfl⟩) h), fun i hi => ?_, by omega, HZ.out.same (y.fp.block _ (by simp; omega) (by omega))⟩
            haveI : Nq (w.heap.size + 1) p wr.drew := ⟨by simpa using hwl, by omega⟩
            exact (Px.cell y _ i).trans (HM.out i hi)
          case measure => simp [intOf]; omega
      · obtain rfl : k = 3 := by omega
        go_wp2_with fail
        go_meet
        exact ⟨a1, e1, HF.out, HR.out, HP.out _ _ (.pure _), HZ.out, by omega⟩
  case rest =>
    obtain ⟨a0, e0, gM, rM, pM, zM', hwM⟩ := hcut
    have PM := hid pM
    have ZM := hid zM'
    have GM := hid gM
    haveI : InW p wc := ⟨rM.lt⟩
    haveI : Nq w.heap.size p wc := ⟨hwM, by omega⟩
    have RM := hid rM
    clear gM rM pM zM' hR
    go_upto_region 8 with (first | (go_at_call 76; refine (jname_any p _ bs a0 e0 (hid (by (with_reducible repeat' (first | exact Hid.out (by assumption) | refine Rs.alloc ?_ _ | refine Rs.ext _ ?_ | refine Rs.drew ?_ | refine Rs.setCell ?_ (by omega) _)); first | done | fail))).go (fun xa a1 e1 v y0 hx0 hR h0 => ?_); obtain ⟨sA, FA, rfl, hqA, hFA, hokA⟩ := hx0.out; have s0 := y0.size) | fail)
    go_upto_region 9 with (first | (go_at_call 75; refine (jnum_any p _ bs a1 e1 (hid (by (with_reducible repeat' (first | exact Hid.out (by assumption) | refine Rs.alloc ?_ _ | refine Rs.ext _ ?_ | refine Rs.drew ?_ | refine Rs.setCell ?_ (by omega) _)); first | done | fail))).go (fun mj a2 e2 v y1 hx1 hR h1 => ?_); obtain ⟨rfl, l1mj, l2mj⟩ := hx1.out; have s1 := y1.size; (try simp at s1)) | fail)
    go_upto_region 10 with (first | (go_at_call 75; refine (jnum_any p _ bs a2 e2 (hid (by (with_reducible repeat' (first | exact Hid.out (by assumption) | refine Rs.alloc ?_ _ | refine Rs.ext _ ?_ | refine Rs.drew ?_ | refine Rs.setCell ?_ (by omega) _)); first | done | fail))).go (fun mn a3 e3 v y2 hx2 hR h2 => ?_); obtain ⟨rfl, l1mn, l2mn⟩ := hx2.out; have s2 := y2.size; (try simp at s2)) | fail)
    go_upto_block 2 with (first | (go_at_call 75; refine (jnum_any p _ bs a3 e3 (hid (by (with_reducible repeat' (first | exact Hid.out (by assumption) | refine Rs.alloc ?_ _ | refine Rs.ext _ ?_ | refine Rs.drew ?_ | refine Rs.setCell ?_ (by omega) _)); first | done | fail))).go (fun n a4 e4 v y3 hx3 hR h3 => ?_); obtain ⟨rfl, l1n, l2n⟩ := hx3.out; have s3 := y3.size; (try simp at s3)) | fail)
    have nM := wc.heap.size
    obtain ⟨D, hD⟩ : ∃ D, D = y0.val.heap.size := ⟨_, rfl⟩
    have hwcD : wc.heap.size ≤ D := by omega
    have hwD : w.heap.size < D := by omega
    have hpD : p < D := by omega
    have hDp : D ≠ p := by omega
    have hs1 : D + 1 ≤ y1.val.heap.size := by omega
    have hs2 : y1.val.heap.size ≤ y2.val.heap.size := by omega
    have hs3 : y2.val.heap.size ≤ y3.val.heap.size := by omega
    have HFA := hid hFA
    have HOKA := hid hokA
    simp only [List.map_id] at hqA
    subst hqA
    refine gen_v (fun W0 => Fp p w W0 ∧ Rs p W0 bs a4 e4 ∧ BoxL W0 w.heap.size zP ∧ BoxL W0 D (bP (.slice sA.a sA.xs.length sA.c) mj mn nilV nilV nilV nilV nilV) ∧ NoD D p y0.val W0 ∧ D < W0.heap.size)
      ⟨((((((GM.out.trans y0.fp).alloc _).trans y1.fp).setCell (.inr (by omega)) _).trans y2.fp).setCell (.inr (by omega)) _).trans y3.fp, hR.out,
        ZM.out.same ((show NoD D p wc y3.val from (by rw [hD]; exact (by (repeat' (first | exact NoD.refl | refine NoD.px _ ?_ | refine NoD.ext _ ?_ | refine NoD.set _ _ ?_ (.inl rfl) | refine NoD.set _ _ ?_ (.inr ?_) | refine NoD.alloc _ ?_)); (all_goals omega)))).blk _ (by omega) (by omega) (by omega)),
        by rw [hD]; exact (((((BoxL.new y0.val _ _).same (y1.fp.block _ (by simp) (by omega))).set 1 (.int .i64 mj) (by simp)).same (y2.fp.block _ (by simp only [size_setCell]; omega) (by omega))).set 2 (.int .i64 mn) (by simp)).same (y3.fp.block _ (by simp only [size_setCell]; omega) (by omega)),
        by rw [hD]; exact (by (repeat' (first | exact NoD.refl | refine NoD.px _ ?_ | refine NoD.ext _ ?_ | refine NoD.set _ _ ?_ (.inl rfl) | refine NoD.set _ _ ?_ (.inr ?_) | refine NoD.alloc _ ?_)); (all_goals omega)), by omega⟩ ?_
    rintro W0 ⟨gW, rW, zW, bW, nW, hDW⟩
    rw [← hD]
    have hA : Hid (Safe D p W0 (fun V => RepL eByte 1 id (w.heap.size + 1) V sA.v sA.xs)) := hid fun V hV => ⟨sA, FA, rfl, by simp, fun b hb => ⟨by have := HFA.out b hb; omega, by have := HFA.out b hb; have := nW.size; have := hV.size; omega⟩, fun w' hs hw => HOKA.out w' (by have := nW.size; have := hV.size; omega) fun b hb => (hw b hb).trans ((nW.trans hV).blk b (by have := HFA.out b hb; omega) (by have := HFA.out b hb; omega) (by have := HFA.out b hb; omega))⟩
    have GW := hid gW
    have RW := hid rW
    have ZW := hid zW
    have BW := hid bW
    have hpW := rW.lt
    obtain ⟨N, rfl⟩ := Int.eq_ofNat_of_zero_le l1n
    have h9 := h3
    clear gW rW zW bW nW hx0 hx1 hx2 hx3 hR s0 s1 s2 s3 hD hFA hokA HFA HOKA hs1 hs2 hs3 ZM GM RM h3
    go_cut [] (CutR eIp 3 Ip.er ipP p w bs D W0 a3 e3 zP (fun h => bP sA.v mj mn h nilV nilV nilV nilV))
    case first =>
      go_wp2_with fail
      go_loopw [7, 8] (fun i _ wr => ∃ k : Nat, k ≤ N ∧ i = .int .i64 k ∧ LoopR eIp 3 61 Ip.er ipP p w bs D W0 a4 e4 zP (fun h => bP sA.v mj mn h nilV nilV nilV nilV) k wr) (fun i _ _ => N - (intOf i).toNat)
      case atStart => exact ⟨0, Nat.zero_le _, rfl, [], _, a4, e4, nilV, rfl, GW.out, LK.start, RW.out, .pure _, ZW.out, BW.out, NoD.refl⟩
      case round =>
        clear GW RW ZW BW
        obtain ⟨k, hk, rfl, acc, F, a10, e12, o, hak, hf, hI, hRs, hP, hz, hb, hkk⟩ := hrel
        have HI := hid hI
        have HA := hid hak
        have hfp := hid hf
        have HR := hid hRs
        have HP := hid hP
        have HZ := hid hz
        have HB := hid hb
        have HKK := hid hkk
        have hwr := hf.size
        have hBw := hkk.size
        have hc2 := hRs.err
        have hlp := hRs.lt
        have hcD := hb.1 3 _ rfl
        haveI : InW p wr := ⟨by omega⟩
        haveI : LeW W0.heap.size wr := ⟨hBw⟩
        haveI : Nq D p wr := ⟨by omega, by omega⟩
        haveI : InW D wr := ⟨by omega⟩
        haveI : Nq w.heap.size p wr := ⟨by omega, by omega⟩
        clear hI hak hf hRs hP hz hb hkk
        by_cases hlt : k < N
        · by_cases he : e12 = 0
          · subst he
            have hal : acc.length ≤ 255 := by have := HA.out; omega
            go_upto_region 15 with (first | (go_at_call 76; refine (jname_any p _ bs a10 0 (hid (by (with_reducible repeat' (first | exact Hid.out (by assumption) | refine Rs.alloc ?_ _ | refine Rs.ext _ ?_ | refine Rs.drew ?_ | refine Rs.setCell ?_ (by omega) _)); first | done | fail))).go (fun xa a11 e13 v y1 hx1 hR1 h11 => ?_); obtain ⟨sx, Fx, rfl, hqx, hFx, hokx⟩ := hx1.out; simp only [List.map_id] at hqx; subst hqx; have HFX := hid hFx; have HOKX := hid hokx; clear hFx hokx hx1; have s1 := y1.size; haveI : InW p y1.val := inferInstance) | fail)
            go_upto_region 16 with (first | (go_at_call 75; refine (jnum_any p _ bs a11 e13 (hid (by (with_reducible repeat' (first | exact Hid.out (by assumption) | refine Rs.alloc ?_ _ | refine Rs.ext _ ?_ | refine Rs.drew ?_ | refine Rs.setCell ?_ (by omega) _)); first | done | fail))).go (fun f1 a12 e14 v y2 hx2 hR2 h12 => ?_); obtain ⟨rfl, l1f1, l2f1⟩ := hx2.out; clear hx2; have s2 := y2.size; (try simp at s2)) | fail)
            go_upto_region 17 with (first | (go_at_call 75; refine (jnum_any p _ bs a12 e14 (hid (by (with_reducible repeat' (first | exact Hid.out (by assumption) | refine Rs.alloc ?_ _ | refine Rs.ext _ ?_ | refine Rs.drew ?_ | refine Rs.setCell ?_ (by omega) _)); first | done | fail))).go (fun f2 a13 e15 v y3 hx3 hR3 h13 => ?_); obtain ⟨rfl, l1f2, l2f2⟩ := hx3.out; clear hx3; have s3 := y3.size; (try simp at s3)) | fail)
            have q2 : y1.val.heap.size + 1 ≤ y2.val.heap.size := by have := y2.fp.size; simpa using this
            have q3 : y2.val.heap.size ≤ y3.val.heap.size := by have := y3.fp.size; simpa only [size_setCell] using this
            obtain ⟨Dh, hDh⟩ : ∃ Dh, Dh = y1.val.heap.size := ⟨_, rfl⟩
            have hwD : wr.heap.size ≤ Dh := by omega
            have hpDh : Dh ≠ p := by omega
            refine gen_v (fun Y => Kept W0.heap.size wr Y ∧ NoD D p wr Y ∧ NoD Dh p y1.val Y ∧ NoD Dh p wr Y ∧ Rs p Y bs a13 e15 ∧ Fp p w Y ∧ BoxL Y Dh [.slice sx.a sx.xs.length sx.c, .int .i64 f1, .int .i64 f2] ∧ Dh < Y.heap.size)
              ⟨(by (with_reducible repeat' (first | exact Kept.refl | refine Kept.set ?_ ?_ | refine Kept.px _ ?_ ?_ | refine Kept.alloc ?_ _ | refine Kept.ext _ ?_)); (all_goals (first | omega | (simp; done) | (simp; omega)))), (by (repeat' (first | exact NoD.refl | refine NoD.px _ ?_ | refine NoD.ext _ ?_ | refine NoD.set _ _ ?_ (.inl rfl) | refine NoD.set _ _ ?_ (.inr ?_) | refine NoD.alloc _ ?_)); (all_goals omega)), by (rw [hDh]; exact (by (repeat' (first | exact NoD.refl | refine NoD.px _ ?_ | refine NoD.ext _ ?_ | refine NoD.set _ _ ?_ (.inl rfl) | refine NoD.set _ _ ?_ (.inr ?_) | refine NoD.alloc _ ?_)); (all_goals omega))), by (rw [hDh]; exact (by (repeat' (first | exact NoD.refl | refine NoD.px _ ?_ | refine NoD.ext _ ?_ | refine NoD.set _ _ ?_ (.inl rfl) | refine NoD.set _ _ ?_ (.inr ?_) | refine NoD.alloc _ ?_)); (all_goals omega))), (by (with_reducible repeat' (first | exact Hid.out (by assumption) | refine Rs.alloc ?_ _ | refine Rs.ext _ ?_ | refine Rs.drew ?_ | refine Rs.setCell ?_ (by omega) _)); first | done | fail),
                (((((hfp.out.trans y1.fp).alloc _).trans y2.fp).setCell (.inr (by omega)) _).trans y3.fp).setCell (.inr (by omega)) _,
                by rw [hDh]; exact ((((BoxL.new y1.val _ _).same (y2.fp.block _ (by simp) (by omega))).set 1 (.int .i64 f1) (by simp)).same (y3.fp.block _ (by simp only [size_setCell]; omega) (by omega))).set 2 (.int .i64 f2) (by simp),
                by rw [size_setCell]; omega⟩ ?_
            rintro Y ⟨kY, nY, nY1, nYh, rY, gY, bY, lY⟩
            rw [← hDh]
            have KY := hid kY
            have NY := hid nY
            have NY1 := hid nY1
            have RY := hid rY
            have GY := hid gY
            have i0 := bY.1 0 _ rfl; have i1 := bY.1 1 _ rfl; have i2 := bY.1 2 _ rfl
            have hYD := hid (HB.out.same (nYh.blk D (by omega) (by omega) (by omega)))
            have hYZ := hid (HZ.out.same (nYh.blk w.heap.size (by omega) (by omega) (by omega)))
            have jD := hYD.out.1 3 _ rfl
            have hon : Hid (Y.ownsRow W0.heap.size 61 3 o acc.length (acc.flatMap (El.cells eIp))) := hid (HI.out.keep kY).own
            have hYs := nY.size
            haveI : LeW W0.heap.size Y := ⟨by omega⟩
            have hDl : y1.val.heap.size ≤ Dh := Nat.le_of_eq hDh.symm
            have hDg : Dh ≤ y1.val.heap.size := Nat.le_of_eq hDh
            clear kY nY nY1 nYh rY gY bY s1 hR1 hR2 hR3 hDh
            go_wp2_with (first | (at_builtin; refine wpList_appL Y rfl _ _ 23 rfl W0.heap.size 61 (.agg #[.slice none 0 0, .int .i64 0, .int .i64 0]) 3 40 Tryz.underlying23 infIp rfl (by decide) o acc.length (acc.flatMap (El.cells eIp)) rfl hon #[.slice sx.a sx.xs.length sx.c, .int .i64 f1, .int .i64 f2] _ 1 1 rfl rfl (by intro q hq; simp at hq; rcases hq with rfl | rfl | rfl <;> rfl) (by unfold maxLen; omega) (by omega) LeW.le ?_; intro v' w1 ho' hg hat; obtain ⟨va, vc, rfl, hfm⟩ := own_form ho'.out; clear hfm; have hlo := hid (HI.out.low hg.out (D := D) hDW (by omega)); have hcw := (hYD.out.same hlo.out).1 3 _ rfl; have hfw := (hYD.out.same hlo.out).2 3) | fail)
            go_roundw
            case rel =>
              have hsz := hg.out.size
              simp only [World.size_alloc] at hsz
              have hF : ∀ b, Fx b → wr.heap.size ≤ b ∧ b < Dh := fun b hb => by have := HFX.out b hb; omega
              refine ⟨k + 1, by omega, by go_num, acc ++ [⟨sx, f1, f2⟩], _, a13, e15, _, by simp [HA.out], (HI.out.fp (by omega) GY.out hg.out).setCell (.inr (by omega)) _,
                (HI.out.step KY.out (F' := Fx) (fun b h => by have := hF b h; omega) hBw (fun w' hs hsame => ⟨(HOKX.out w' (by omega) fun b hb => (hsame b hb).trans (NY1.out.blk b (by have := hF b hb; omega) (by have := hF b hb; omega) (by have := hF b hb; omega))), i64_byte l1f1 l2f1, i64_byte l1f2 l2f2⟩) (own_eq ho'.out (by simp) (by simp [eIp])) hg.out hat.out).keep (Kept.refl.set (.inl (by omega))),
                (HI.out.rs (by omega) RY.out hg.out).setCell (by omega) _, ?_, hYZ.out.same ((Below.heap_setCell _ _ _ _ (by simp only; omega)).trans (HI.out.low hg.out (by omega) (by omega))), (hYD.out.same hlo.out).set 3 _ (by simp),
                (LK.nod HI.out (HKK.out.trans NY.out) (Nat.le_refl _) hg.out).set _ _ (.inl rfl)⟩
              rw [List.map_append, List.map_cons, List.map_nil]
              exact HP.out.snoc (h11.out.bind (h12.out.bind (h13.out.bind (.pure _))))
            case measure => simp [intOf]; omega
          · have hg2 : (e12 == 0) = false := by simp [he]
            have HE := hid he
            clear he
            go_wp2_with fail
            go_meet
            obtain ⟨va, vc, rfl, -⟩ := own_form HI.out.own
            exact ⟨⟨va, vc, acc⟩, acc.map Ip.er, a10, e12, hfp.out, RepL.safe (lo := w.heap.size + 1) (HI.out.done (er := Ip.er) (fun x _ => rfl)) (by omega) (by omega) (by omega), HR.out, Post.list h9.out HP.out OM (.inr HE.out), HZ.out, HB.out, HKK.out⟩
        · obtain rfl : k = N := by omega
          go_wp2_with fail
          go_meet
          obtain ⟨va, vc, rfl, -⟩ := own_form HI.out.own
          exact ⟨⟨va, vc, acc⟩, acc.map Ip.er, a10, e12, hfp.out, RepL.safe (lo := w.heap.size + 1) (HI.out.done (er := Ip.er) (fun x _ => rfl)) (by omega) (by omega) (by omega), HR.out, Post.list h9.out HP.out OM (.inl (by simp)), HZ.out, HB.out, HKK.out⟩
    case rest =>
      obtain ⟨s2, l2, a5, e5, gX, hI, rX, pX, zX, bX, nX⟩ := hcut
      have P2 := hid pX
      have hwx := nX.size
      have hlp := rX.lt
      haveI : InW p wc := ⟨rX.lt⟩
      haveI : InW D wc := ⟨by omega⟩
      haveI : Nq D p wc := ⟨by omega, by omega⟩
      haveI : Nq w.heap.size p wc := ⟨by omega, by omega⟩
      have RX := hid rX
      clear GW RW ZW BW pX h9
      go_upto_block 4 with (first | (go_at_call 75; refine (jnum_any p _ bs a5 e5 (hid (by (with_reducible repeat' (first | exact Hid.out (by assumption) | refine Rs.alloc ?_ _ | refine Rs.ext _ ?_ | refine Rs.drew ?_ | refine Rs.setCell ?_ (by omega) _)); first | done | fail))).go (fun n2 a6 e6 v yN hxn hRN h9 => ?_); obtain ⟨rfl, l1n2, l2n2⟩ := (hxn).out; have syN := (yN).size; (try simp at syN)) | fail)
      refine gen_v (fun V => Fp p w V ∧ Rs p V bs a6 e6 ∧ BoxL V w.heap.size zP ∧ BoxL V D (bP sA.v mj mn s2.v nilV nilV nilV nilV) ∧ D < V.heap.size ∧ Safe D p V (fun V => RepL eByte 1 id (w.heap.size + 1) V sA.v sA.xs) ∧ Safe D p V (fun V => RepL eIp 3 Ip.er (w.heap.size + 1) V (s2).v l2))
        ⟨gX.trans yN.fp, hRN.out, zX.same (yN.fp.block _ (by omega) (by omega)), bX.same (yN.fp.block _ (by omega) (by omega)), by omega, (hA.out.next nX).next (by (repeat' (first | exact NoD.refl | refine NoD.px _ ?_ | refine NoD.ext _ ?_ | refine NoD.set _ _ ?_ (.inl rfl) | refine NoD.set _ _ ?_ (.inr ?_) | refine NoD.alloc _ ?_)); (all_goals omega)), hI.next (by (repeat' (first | exact NoD.refl | refine NoD.px _ ?_ | refine NoD.ext _ ?_ | refine NoD.set _ _ ?_ (.inl rfl) | refine NoD.set _ _ ?_ (.inr ?_) | refine NoD.alloc _ ?_)); (all_goals omega))⟩ ?_
      rintro W1 ⟨gW, rW, zW, bW, hDW, hA, hS2⟩
      have GW := hid gW
      have RW := hid rW
      have ZW := hid zW
      have BW := hid bW
      have hpW := rW.lt
      obtain ⟨N, rfl⟩ := Int.eq_ofNat_of_zero_le l1n2
      clear gW rW zW bW gX hI rX zX bX nX hRN hxn RX
      have hA := hid hA
      have HS2 := hid hS2
      clear hS2
      go_cut [] (CutR eCl 7 Cl.er clP p w bs D W1 a5 e5 zP (fun h => bP sA.v mj mn s2.v h nilV nilV nilV))
      case first =>
        go_wp2_with fail
        go_loopw [9] (fun i wr => ∃ k : Nat, k ≤ N ∧ i = .int .i64 k ∧ LoopR eCl 7 49 Cl.er clP p w bs D W1 a6 e6 zP (fun h => bP sA.v mj mn s2.v h nilV nilV nilV) k wr) (fun i _ => N - (intOf i).toNat)
        case atStart => exact ⟨0, Nat.zero_le _, rfl, [], _, a6, e6, nilV, rfl, GW.out, LK.start, RW.out, .pure _, ZW.out, BW.out, NoD.refl⟩
        case round =>
          clear GW RW ZW BW
          obtain ⟨k, hk, rfl, acc, F, a10, e12, o, hak, hf, hI, hRs, hP, hz, hb, hkk⟩ := hrel
          have HI := hid hI
          have HA := hid hak
          have hfp := hid hf
          have HR := hid hRs
          have HP := hid hP
          have HZ := hid hz
          have HB := hid hb
          have HKK := hid hkk
          have hwr := hf.size
          have hBw := hkk.size
          have hc2 := hRs.err
          have hlp := hRs.lt
          have hcD := hb.1 4 _ rfl
          have hfD := hb.2 4
          haveI : InW p wr := ⟨by omega⟩
          haveI : LeW W1.heap.size wr := ⟨hBw⟩
          haveI : Nq D p wr := ⟨by omega, by omega⟩
          haveI : InW D wr := ⟨by omega⟩
          haveI : Nq w.heap.size p wr := ⟨by omega, by omega⟩
          clear hI hak hf hRs hP hz hb hkk
          by_cases hlt : k < N
          · by_cases he : e12 = 0
            · subst he
              have hal : acc.length ≤ 255 := by have := HA.out; omega
              go_wp2_with fail
              go_region_law (first | (refine step_appL _ (by rfl) _ _ 24 (by rfl) W1.heap.size 49 (.agg #[.int .i64 0, .int .i64 0, .bool false, .slice none 0 0, .slice none 0 0, .slice none 0 0, .slice none 0 0]) 7 120 Tryz.underlying24 infCl rfl (by decide) o acc.length (acc.flatMap (El.cells eCl)) (by rfl) hon #[.int .i64 c.super.p, .int .i64 c.super.c, .bool c.isI, .slice c.ext.a c.ext.xs.length c.ext.c, .slice c.fields.a c.fields.xs.length c.fields.c, .slice c.virt.a c.virt.xs.length c.virt.c, .slice c.impls.a c.impls.xs.length c.impls.c] _ 1 1 (by rfl) (by rfl) (by intro q hq; simp at hq; (repeat' (rcases hq with rfl | hq)); all_goals (first | rfl | (subst hq; rfl))) (by unfold maxLen; omega) (by omega) LeW.le ?_; intro v' w1 ho' hg hat; obtain ⟨va, vc, rfl, hfm⟩ := own_form ho'.out; clear hfm; have hlo := hid (HI.out.low hg.out (D := D) (by omega) (Nat.lt_of_lt_of_le (show D < wr.heap.size by omega) y.fp.size)); have hcw : w1.cell? ⟨D, 4, none⟩ = some o := ((World.cell?_of_block (w := y.val) (a := ⟨D, 4, none⟩) hlo.out).trans (Px.cell y D 4)).trans hcD; have hfw : w1.frozen? ⟨D, 4, none⟩ = false := ((World.frozen?_of_block (w := y.val) (a := ⟨D, 4, none⟩) hlo.out).trans (Px.frozen y D 4)).trans hfD) | (go_simp; go_at_call 77; refine (jclass_any p _ bs a10 0 (hid (by (with_reducible repeat' (first | exact Hid.out (by assumption) | refine Rs.alloc ?_ _ | refine Rs.ext _ ?_ | refine Rs.drew ?_ | refine Rs.setCell ?_ (by omega) _)); first | done | fail))).go (fun x a11 e13 v y hrp hR2 h11 => ?_); obtain ⟨c, G, rfl, hc, hG, hok⟩ := hrp.out; have HC := hid hc; have HG := hid hG; have HOK := hid hok; clear hc hG hok hrp; have hkp := hid (show Kept W1.heap.size wr y.val from .px y (show Kept W1.heap.size wr wr.drew from ⟨Nat.le_refl _, fun _ _ _ => rfl⟩) (by omega)); haveI : LeW W1.heap.size y.val := ⟨Nat.le_trans hBw y.fp.size⟩; have hon : Hid (y.val.ownsRow W1.heap.size 49 7 o acc.length (acc.flatMap (El.cells eCl))) := hid (HI.out.keep hkp.out).own; have hyc : y.val.cell? ⟨D, 4, none⟩ = some o := (Px.cell y D 4).trans hcD))
              all_goals
                go_wp2_with fail
                go_roundw
                case rel =>
                  have hsz := hg.out.size
                  simp only [World.size_alloc] at hsz
                  have hyz : wr.heap.size ≤ y.val.heap.size := y.fp.size
                  have hno : NoD D p wr y.val := ⟨hyz, fun b h1 h2 _ => y.fp.block b (show b < wr.heap.size from h1) h2⟩
                  have b0 : ∀ b, b < D → b ≠ p → (w1.setCell ⟨D, 4, none⟩ (.slice va (acc.length + 1) vc)).heap[b]? = wr.heap[b]? := fun b h1 h2 => ((Below.heap_setCell _ _ _ _ (by simp only; omega)).trans (HI.out.low hg.out (by omega) (by omega))).trans (y.fp.block b (show b < wr.heap.size by omega) h2)
                  refine ⟨k + 1, by omega, by go_num, acc ++ [c], _, a11, e13, _, by simp [HA.out], (HI.out.fp (by omega) (hfp.out.drew.trans y.fp) hg.out).setCell (.inr (by omega)) _, (HI.out.step hkp.out HG.out hBw HOK.out (own_eq ho'.out (by simp) (by simp [eCl])) hg.out hat.out).keep (Kept.refl.set (.inl (by omega))), (HI.out.rs (by omega) hR2.out hg.out).setCell (by omega) _, ?_, HZ.out.same (b0 _ (by omega) (by omega)), ((HB.out.same (y.fp.block D (show D < wr.heap.size by omega) (by omega))).same hlo.out).set 4 _ (by simp), (LK.nod HI.out (HKK.out.trans hno) (Nat.le_refl _) hg.out).set _ _ (.inl rfl)⟩
                  rw [List.map_append, List.map_cons, List.map_nil, HC.out]
                  exact HP.out.snoc h11.out
                case measure => simp [intOf]; omega
            · have hg2 : (e12 == 0) = false := by simp [he]
              have HE := hid he
              clear he
              go_wp2_with fail
              go_meet
              obtain ⟨va, vc, rfl, -⟩ := own_form HI.out.own
              exact ⟨⟨va, vc, acc⟩, acc.map Cl.er, a10, e12, hfp.out, RepL.safe (lo := w.heap.size + 1) (HI.out.done (er := Cl.er) (fun x _ => rfl)) (by omega) (by omega) (by omega), HR.out, Post.list h9.out HP.out OM (.inr HE.out), HZ.out, HB.out, HKK.out⟩
          · obtain rfl : k = N := by omega
            go_wp2_with fail
            go_meet
            obtain ⟨va, vc, rfl, -⟩ := own_form HI.out.own
            exact ⟨⟨va, vc, acc⟩, acc.map Cl.er, a10, e12, hfp.out, RepL.safe (lo := w.heap.size + 1) (HI.out.done (er := Cl.er) (fun x _ => rfl)) (by omega) (by omega) (by omega), HR.out, Post.list h9.out HP.out OM (.inl (by simp)), HZ.out, HB.out, HKK.out⟩
      case rest =>
        obtain ⟨s3, l3, a7, e7, gX, hI, rX, pX, zX, bX, nX⟩ := hcut
        have P3 := hid pX
        have hwx := nX.size
        have hlp := rX.lt
        haveI : InW p wc := ⟨rX.lt⟩
        haveI : InW D wc := ⟨by omega⟩
        haveI : Nq D p wc := ⟨by omega, by omega⟩
        haveI : Nq w.heap.size p wc := ⟨by omega, by omega⟩
        have RX := hid rX
        clear GW RW ZW BW pX h9
        go_upto_block 6 with (first | (go_at_call 75; refine (jnum_any p _ bs a7 e7 (hid (by (with_reducible repeat' (first | exact Hid.out (by assumption) | refine Rs.alloc ?_ _ | refine Rs.ext _ ?_ | refine Rs.drew ?_ | refine Rs.setCell ?_ (by omega) _)); first | done | fail))).go (fun n3 a8 e8 v yN hxn hRN h9 => ?_); obtain ⟨rfl, l1n3, l2n3⟩ := (hxn).out; have syN := (yN).size; (try simp at syN)) | fail)
        refine gen_v (fun V => Fp p w V ∧ Rs p V bs a8 e8 ∧ BoxL V w.heap.size zP ∧ BoxL V D (bP sA.v mj mn s2.v s3.v nilV nilV nilV) ∧ D < V.heap.size ∧ Safe D p V (fun V => RepL eByte 1 id (w.heap.size + 1) V sA.v sA.xs) ∧ Safe D p V (fun V => RepL eIp 3 Ip.er (w.heap.size + 1) V (s2).v l2) ∧ Safe D p V (fun V => RepL eCl 7 Cl.er (w.heap.size + 1) V (s3).v l3))
          ⟨gX.trans yN.fp, hRN.out, zX.same (yN.fp.block _ (by omega) (by omega)), bX.same (yN.fp.block _ (by omega) (by omega)), by omega, (hA.out.next nX).next (by (repeat' (first | exact NoD.refl | refine NoD.px _ ?_ | refine NoD.ext _ ?_ | refine NoD.set _ _ ?_ (.inl rfl) | refine NoD.set _ _ ?_ (.inr ?_) | refine NoD.alloc _ ?_)); (all_goals omega)), (HS2.out.next nX).next (by (repeat' (first | exact NoD.refl | refine NoD.px _ ?_ | refine NoD.ext _ ?_ | refine NoD.set _ _ ?_ (.inl rfl) | refine NoD.set _ _ ?_ (.inr ?_) | refine NoD.alloc _ ?_)); (all_goals omega)), hI.next (by (repeat' (first | exact NoD.refl | refine NoD.px _ ?_ | refine NoD.ext _ ?_ | refine NoD.set _ _ ?_ (.inl rfl) | refine NoD.set _ _ ?_ (.inr ?_) | refine NoD.alloc _ ?_)); (all_goals omega))⟩ ?_
        rintro W2 ⟨gW, rW, zW, bW, hDW, hB1, hB2, hS3⟩
        have GW := hid gW
        have RW := hid rW
        have ZW := hid zW
        have BW := hid bW
        have hpW := rW.lt
        obtain ⟨N, rfl⟩ := Int.eq_ofNat_of_zero_le l1n3
        clear gW rW zW bW gX hI rX zX bX nX hRN hxn RX
        clear hA HS2
        have hA := hid hB1
        have HS2 := hid hB2
        have HS3 := hid hS3
        clear hB1 hB2 hS3
        go_cut [] (CutR eMe 11 Me.er meP p w bs D W2 a7 e7 zP (fun h => bP sA.v mj mn s2.v s3.v h nilV nilV))
        case first =>
          go_wp2_with fail
          go_loopw [10] (fun i wr => ∃ k : Nat, k ≤ N ∧ i = .int .i64 k ∧ LoopR eMe 11 55 Me.er meP p w bs D W2 a8 e8 zP (fun h => bP sA.v mj mn s2.v s3.v h nilV nilV) k wr) (fun i _ => N - (intOf i).toNat)
          case atStart => exact ⟨0, Nat.zero_le _, rfl, [], _, a8, e8, nilV, rfl, GW.out, LK.start, RW.out, .pure _, ZW.out, BW.out, NoD.refl⟩
          case round =>
            clear GW RW ZW BW
            obtain ⟨k, hk, rfl, acc, F, a10, e12, o, hak, hf, hI, hRs, hP, hz, hb, hkk⟩ := hrel
            have HI := hid hI
            have HA := hid hak
            have hfp := hid hf
            have HR := hid hRs
            have HP := hid hP
            have HZ := hid hz
            have HB := hid hb
            have HKK := hid hkk
            have hwr := hf.size
            have hBw := hkk.size
            have hc2 := hRs.err
            have hlp := hRs.lt
            have hcD := hb.1 5 _ rfl
            have hfD := hb.2 5
            haveI : InW p wr := ⟨by omega⟩
            haveI : LeW W2.heap.size wr := ⟨hBw⟩
            haveI : Nq D p wr := ⟨by omega, by omega⟩
            haveI : InW D wr := ⟨by omega⟩
            haveI : Nq w.heap.size p wr := ⟨by omega, by omega⟩
            clear hI hak hf hRs hP hz hb hkk
            by_cases hlt : k < N
            · by_cases he : e12 = 0
              · subst he
                have hal : acc.length ≤ 255 := by have := HA.out; omega
                go_wp2_with fail
                go_region_law (first | (refine step_appL _ (by rfl) _ _ 25 (by rfl) W2.heap.size 55 (.agg #[.bool false, .bool false, .int .i64 0, .slice none 0 0, .int .i64 0, .int .i64 0, .int .i64 0, .int .i64 0, .int .i64 0, .slice none 0 0, .slice none 0 0]) 11 128 Tryz.underlying25 infMe rfl (by decide) o acc.length (acc.flatMap (El.cells eMe)) (by rfl) hon #[.bool c.static, .bool c.abs, .int .i64 c.cls, .slice c.params.a c.params.xs.length c.params.c, .int .i64 c.result.k, .int .i64 c.result.c.p, .int .i64 c.result.c.c, .int .i64 c.locals, .int .i64 c.stack, .slice c.code.a c.code.xs.length c.code.c, .slice c.hs.a c.hs.xs.length c.hs.c] _ 1 1 (by rfl) (by rfl) (by intro q hq; simp at hq; (repeat' (rcases hq with rfl | hq)); all_goals (first | rfl | (subst hq; rfl))) (by unfold maxLen; omega) (by omega) LeW.le ?_; intro v' w1 ho' hg hat; obtain ⟨va, vc, rfl, hfm⟩ := own_form ho'.out; clear hfm; have hlo := hid (HI.out.low hg.out (D := D) (by omega) (Nat.lt_of_lt_of_le (show D < wr.heap.size by omega) y.fp.size)); have hcw : w1.cell? ⟨D, 5, none⟩ = some o := ((World.cell?_of_block (w := y.val) (a := ⟨D, 5, none⟩) hlo.out).trans (Px.cell y D 5)).trans hcD; have hfw : w1.frozen? ⟨D, 5, none⟩ = false := ((World.frozen?_of_block (w := y.val) (a := ⟨D, 5, none⟩) hlo.out).trans (Px.frozen y D 5)).trans hfD) | (go_simp; go_at_call 78; refine (jmethod_any p _ bs a10 0 (hid (by (with_reducible repeat' (first | exact Hid.out (by assumption) | refine Rs.alloc ?_ _ | refine Rs.ext _ ?_ | refine Rs.drew ?_ | refine Rs.setCell ?_ (by omega) _)); first | done | fail))).go (fun x a11 e13 v y hrp hR2 h11 => ?_); obtain ⟨c, G, rfl, hc, hG, hok⟩ := hrp.out; have HC := hid hc; have HG := hid hG; have HOK := hid hok; clear hc hG hok hrp; have hkp := hid (show Kept W2.heap.size wr y.val from .px y (show Kept W2.heap.size wr wr.drew from ⟨Nat.le_refl _, fun _ _ _ => rfl⟩) (by omega)); haveI : LeW W2.heap.size y.val := ⟨Nat.le_trans hBw y.fp.size⟩; have hon : Hid (y.val.ownsRow W2.heap.size 55 11 o acc.length (acc.flatMap (El.cells eMe))) := hid (HI.out.keep hkp.out).own; have hyc : y.val.cell? ⟨D, 5, none⟩ = some o := (Px.cell y D 5).trans hcD))
                all_goals
                  go_wp2_with fail
                  go_roundw
                  case rel =>
                    have hsz := hg.out.size
                    simp only [World.size_alloc] at hsz
                    have hyz : wr.heap.size ≤ y.val.heap.size := y.fp.size
                    have hno : NoD D p wr y.val := ⟨hyz, fun b h1 h2 _ => y.fp.block b (show b < wr.heap.size from h1) h2⟩
                    have b0 : ∀ b, b < D → b ≠ p → (w1.setCell ⟨D, 5, none⟩ (.slice va (acc.length + 1) vc)).heap[b]? = wr.heap[b]? := fun b h1 h2 => ((Below.heap_setCell _ _ _ _ (by simp only; omega)).trans (HI.out.low hg.out (by omega) (by omega))).trans (y.fp.block b (show b < wr.heap.size by omega) h2)
                    refine ⟨k + 1, by omega, by go_num, acc ++ [c], _, a11, e13, _, by simp [HA.out], (HI.out.fp (by omega) (hfp.out.drew.trans y.fp) hg.out).setCell (.inr (by omega)) _, (HI.out.step hkp.out HG.out hBw HOK.out (own_eq ho'.out (by simp) (by simp [eMe])) hg.out hat.out).keep (Kept.refl.set (.inl (by omega))), (HI.out.rs (by omega) hR2.out hg.out).setCell (by omega) _, ?_, HZ.out.same (b0 _ (by omega) (by omega)), ((HB.out.same (y.fp.block D (show D < wr.heap.size by omega) (by omega))).same hlo.out).set 5 _ (by simp), (LK.nod HI.out (HKK.out.trans hno) (Nat.le_refl _) hg.out).set _ _ (.inl rfl)⟩
                    rw [List.map_append, List.map_cons, List.map_nil, HC.out]
                    exact HP.out.snoc h11.out
                  case measure => simp [intOf]; omega
              · have hg2 : (e12 == 0) = false := by simp [he]
                have HE := hid he
                clear he
                go_wp2_with fail
                go_meet
                obtain ⟨va, vc, rfl, -⟩ := own_form HI.out.own
                exact ⟨⟨va, vc, acc⟩, acc.map Me.er, a10, e12, hfp.out, RepL.safe (lo := w.heap.size + 1) (HI.out.done (er := Me.er) (fun x _ => rfl)) (by omega) (by omega) (by omega), HR.out, Post.list h9.out HP.out OM (.inr HE.out), HZ.out, HB.out, HKK.out⟩
            · obtain rfl : k = N := by omega
              go_wp2_with fail
              go_meet
              obtain ⟨va, vc, rfl, -⟩ := own_form HI.out.own
              exact ⟨⟨va, vc, acc⟩, acc.map Me.er, a10, e12, hfp.out, RepL.safe (lo := w.heap.size + 1) (HI.out.done (er := Me.er) (fun x _ => rfl)) (by omega) (by omega) (by omega), HR.out, Post.list h9.out HP.out OM (.inl (by simp)), HZ.out, HB.out, HKK.out⟩
        case rest =>
          obtain ⟨s4, l4, a9, e9, gX, hI, rX, pX, zX, bX, nX⟩ := hcut
          have P4 := hid pX
          have hwx := nX.size
          have hlp := rX.lt
          haveI : InW p wc := ⟨rX.lt⟩
          haveI : InW D wc := ⟨by omega⟩
          haveI : Nq D p wc := ⟨by omega, by omega⟩
          haveI : Nq w.heap.size p wc := ⟨by omega, by omega⟩
          have RX := hid rX
          clear GW RW ZW BW pX h9
          have d6 := bX.1 6 _ rfl
          have df := bX.2 6
          go_upto_block 8 with (first | (go_at_call 79; refine (jtypes_any p _ bs a9 e9 (hid (by (with_reducible repeat' (first | exact Hid.out (by assumption) | refine Rs.alloc ?_ _ | refine Rs.ext _ ?_ | refine Rs.drew ?_ | refine Rs.setCell ?_ (by omega) _)); first | done | fail))).go (fun ps a10 e10 v yT hx5 hR h5 => ?_); obtain ⟨s5, F5, rfl, hq5, hF5, hok5⟩ := hx5.out; have szT := yT.size; (try simp at szT)) | (go_at_call 75; refine (jnum_any p _ bs a10 e10 (hid (by (with_reducible repeat' (first | exact Hid.out (by assumption) | refine Rs.alloc ?_ _ | refine Rs.ext _ ?_ | refine Rs.drew ?_ | refine Rs.setCell ?_ (by omega) _)); first | done | fail))).go (fun n4 a11 e11 v yN hxn hRN h9 => ?_); obtain ⟨rfl, l1n4, l2n4⟩ := (hxn).out; have syN := (yN).size; (try simp at syN)) | fail)
          have sT : wc.heap.size ≤ yT.val.heap.size := yT.fp.size
          have sN : yT.val.heap.size ≤ yN.val.heap.size := by have := yN.fp.size; simpa only [size_setCell] using this
          have hnn : NoD D p wc yN.val := (by (repeat' (first | exact NoD.refl | refine NoD.px _ ?_ | refine NoD.ext _ ?_ | refine NoD.set _ _ ?_ (.inl rfl) | refine NoD.set _ _ ?_ (.inr ?_) | refine NoD.alloc _ ?_)); (all_goals omega))
          refine gen_v (fun V => Fp p w V ∧ Rs p V bs a11 e11 ∧ BoxL V w.heap.size zP ∧ BoxL V D (bP sA.v mj mn s2.v s3.v s4.v s5.v nilV) ∧ D < V.heap.size ∧ Safe D p V (fun V => RepL eByte 1 id (w.heap.size + 1) V sA.v sA.xs) ∧ Safe D p V (fun V => RepL eIp 3 Ip.er (w.heap.size + 1) V (s2).v l2) ∧ Safe D p V (fun V => RepL eCl 7 Cl.er (w.heap.size + 1) V (s3).v l3) ∧ Safe D p V (fun V => RepL eMe 11 Me.er (w.heap.size + 1) V (s4).v l4) ∧ Safe D p V (fun V => RepL eTy 3 id (w.heap.size + 1) V (s5).v ps))
            ⟨((gX.trans yT.fp).setCell (.inr (by omega)) _).trans yN.fp, hRN.out, zX.same (hnn.blk _ (by omega) (by omega) (by omega)), ((bX.same (yT.fp.block _ (by omega) (by omega))).set 6 s5.v (by simp)).same (yN.fp.block _ (by simp only [size_setCell]; omega) (by omega)), by omega,
              (hA.out.next nX).next hnn, (HS2.out.next nX).next hnn, (HS3.out.next nX).next hnn, hI.next hnn, (RepL.safe (lo := w.heap.size + 1) hx5.out (by omega) (by omega) (by omega)).next (show NoD D p yT.val yN.val from (by (repeat' (first | exact NoD.refl | refine NoD.px _ ?_ | refine NoD.ext _ ?_ | refine NoD.set _ _ ?_ (.inl rfl) | refine NoD.set _ _ ?_ (.inr ?_) | refine NoD.alloc _ ?_)); (all_goals omega)))⟩ ?_
          clear hA HS2 HS3
          rintro W3 ⟨gW, rW, zW, bW, hDW, hB1, hB2, hB3, hB4, hB5⟩
          have hA := hid hB1
          have HS2 := hid hB2
          have HS3 := hid hB3
          have HS4 := hid hB4
          have HS5 := hid hB5
          have GW := hid gW
          have RW := hid rW
          have ZW := hid zW
          have BW := hid bW
          have hpW := rW.lt
          obtain ⟨N, rfl⟩ := Int.eq_ofNat_of_zero_le l1n4
          clear d6 df gW rW zW bW gX hI rX zX bX nX hRN hxn RX hx5 hR hF5 hok5 hq5 szT sT sN hnn hB1 hB2 hB3 hB4 hB5
          go_cut [] (CutR eAp 3 Ap.er apP p w bs D W3 a10 e10 zP (fun h => bP sA.v mj mn s2.v s3.v s4.v s5.v h))
          case first =>
            go_wp2_with fail
            go_loopw [11, 12] (fun i _ wr => ∃ k : Nat, k ≤ N ∧ i = .int .i64 k ∧ LoopR eAp 3 63 Ap.er apP p w bs D W3 a11 e11 zP (fun h => bP sA.v mj mn s2.v s3.v s4.v s5.v h) k wr) (fun i _ _ => N - (intOf i).toNat)
            case atStart => exact ⟨0, Nat.zero_le _, rfl, [], _, a11, e11, nilV, rfl, GW.out, LK.start, RW.out, .pure _, ZW.out, BW.out, NoD.refl⟩
            case round =>
              clear GW RW ZW BW
              obtain ⟨k, hk, rfl, acc, F, a10, e12, o, hak, hf, hI, hRs, hP, hz, hb, hkk⟩ := hrel
              have HI := hid hI
              have HA := hid hak
              have hfp := hid hf
              have HR := hid hRs
              have HP := hid hP
              have HZ := hid hz
              have HB := hid hb
              have HKK := hid hkk
              have hwr := hf.size
              have hBw := hkk.size
              have hc2 := hRs.err
              have hlp := hRs.lt
              have hcD := hb.1 7 _ rfl
              haveI : InW p wr := ⟨by omega⟩
              haveI : LeW W3.heap.size wr := ⟨hBw⟩
              haveI : Nq D p wr := ⟨by omega, by omega⟩
              haveI : InW D wr := ⟨by omega⟩
              haveI : Nq w.heap.size p wr := ⟨by omega, by omega⟩
              clear hI hak hf hRs hP hz hb hkk
              by_cases hlt : k < N
              · by_cases he : e12 = 0
                · subst he
                  have hal : acc.length ≤ 255 := by have := HA.out; omega
                  go_upto_region 34 with (first | (go_at_call 76; refine (jname_any p _ bs a10 0 (hid (by (with_reducible repeat' (first | exact Hid.out (by assumption) | refine Rs.alloc ?_ _ | refine Rs.ext _ ?_ | refine Rs.drew ?_ | refine Rs.setCell ?_ (by omega) _)); first | done | fail))).go (fun xa a11 e13 v y1 hx1 hR1 h11 => ?_); obtain ⟨sx, Fx, rfl, hqx, hFx, hokx⟩ := hx1.out; simp only [List.map_id] at hqx; subst hqx; have HFX := hid hFx; have HOKX := hid hokx; clear hFx hokx hx1; have s1 := y1.size; haveI : InW p y1.val := inferInstance) | fail)
                  go_upto_region 35 with (first | (go_at_call 75; refine (jnum_any p _ bs a11 e13 (hid (by (with_reducible repeat' (first | exact Hid.out (by assumption) | refine Rs.alloc ?_ _ | refine Rs.ext _ ?_ | refine Rs.drew ?_ | refine Rs.setCell ?_ (by omega) _)); first | done | fail))).go (fun f1 a12 e14 v y2 hx2 hR2 h12 => ?_); obtain ⟨rfl, l1f1, l2f1⟩ := hx2.out; clear hx2; have s2 := y2.size; (try simp at s2)) | fail)
                  go_upto_region 36 with (first | (go_at_call 75; refine (jnum_any p _ bs a12 e14 (hid (by (with_reducible repeat' (first | exact Hid.out (by assumption) | refine Rs.alloc ?_ _ | refine Rs.ext _ ?_ | refine Rs.drew ?_ | refine Rs.setCell ?_ (by omega) _)); first | done | fail))).go (fun f2 a13 e15 v y3 hx3 hR3 h13 => ?_); obtain ⟨rfl, l1f2, l2f2⟩ := hx3.out; clear hx3; have s3 := y3.size; (try simp at s3)) | fail)
                  have q2 : y1.val.heap.size + 1 ≤ y2.val.heap.size := by have := y2.fp.size; simpa using this
                  have q3 : y2.val.heap.size ≤ y3.val.heap.size := by have := y3.fp.size; simpa only [size_setCell] using this
                  obtain ⟨Dh, hDh⟩ : ∃ Dh, Dh = y1.val.heap.size := ⟨_, rfl⟩
                  have hwD : wr.heap.size ≤ Dh := by omega
                  have hpDh : Dh ≠ p := by omega
                  refine gen_v (fun Y => Kept W3.heap.size wr Y ∧ NoD D p wr Y ∧ NoD Dh p y1.val Y ∧ NoD Dh p wr Y ∧ Rs p Y bs a13 e15 ∧ Fp p w Y ∧ BoxL Y Dh [.slice sx.a sx.xs.length sx.c, .int .i64 f1, .int .i64 f2] ∧ Dh < Y.heap.size)
                    ⟨(by (with_reducible repeat' (first | exact Kept.refl | refine Kept.set ?_ ?_ | refine Kept.px _ ?_ ?_ | refine Kept.alloc ?_ _ | refine Kept.ext _ ?_)); (all_goals (first | omega | (simp; done) | (simp; omega)))), (by (repeat' (first | exact NoD.refl | refine NoD.px _ ?_ | refine NoD.ext _ ?_ | refine NoD.set _ _ ?_ (.inl rfl) | refine NoD.set _ _ ?_ (.inr ?_) | refine NoD.alloc _ ?_)); (all_goals omega)), by (rw [hDh]; exact (by (repeat' (first | exact NoD.refl | refine NoD.px _ ?_ | refine NoD.ext _ ?_ | refine NoD.set _ _ ?_ (.inl rfl) | refine NoD.set _ _ ?_ (.inr ?_) | refine NoD.alloc _ ?_)); (all_goals omega))), by (rw [hDh]; exact (by (repeat' (first | exact NoD.refl | refine NoD.px _ ?_ | refine NoD.ext _ ?_ | refine NoD.set _ _ ?_ (.inl rfl) | refine NoD.set _ _ ?_ (.inr ?_) | refine NoD.alloc _ ?_)); (all_goals omega))), (by (with_reducible repeat' (first | exact Hid.out (by assumption) | refine Rs.alloc ?_ _ | refine Rs.ext _ ?_ | refine Rs.drew ?_ | refine Rs.setCell ?_ (by omega) _)); first | done | fail),
                      (((((hfp.out.trans y1.fp).alloc _).trans y2.fp).setCell (.inr (by omega)) _).trans y3.fp).setCell (.inr (by omega)) _,
                      by rw [hDh]; exact ((((BoxL.new y1.val _ _).same (y2.fp.block _ (by simp) (by omega))).set 1 (.int .i64 f1) (by simp)).same (y3.fp.block _ (by simp only [size_setCell]; omega) (by omega))).set 2 (.int .i64 f2) (by simp),
                      by rw [size_setCell]; omega⟩ ?_
                  rintro Y ⟨kY, nY, nY1, nYh, rY, gY, bY, lY⟩
                  rw [← hDh]
                  have KY := hid kY
                  have NY := hid nY
                  have NY1 := hid nY1
                  have RY := hid rY
                  have GY := hid gY
                  have i0 := bY.1 0 _ rfl; have i1 := bY.1 1 _ rfl; have i2 := bY.1 2 _ rfl
                  have hYD := hid (HB.out.same (nYh.blk D (by omega) (by omega) (by omega)))
                  have hYZ := hid (HZ.out.same (nYh.blk w.heap.size (by omega) (by omega) (by omega)))
                  have jD := hYD.out.1 7 _ rfl
                  have hon : Hid (Y.ownsRow W3.heap.size 63 3 o acc.length (acc.flatMap (El.cells eAp))) := hid (HI.out.keep kY).own
                  have hYs := nY.size
                  haveI : LeW W3.heap.size Y := ⟨by omega⟩
                  have hDl : y1.val.heap.size ≤ Dh := Nat.le_of_eq hDh.symm
                  have hDg : Dh ≤ y1.val.heap.size := Nat.le_of_eq hDh
                  clear kY nY nY1 nYh rY gY bY s1 hR1 hR2 hR3 hDh
                  go_wp2_with (first | (at_builtin; refine wpList_appL Y rfl _ _ 27 rfl W3.heap.size 63 (.agg #[.slice none 0 0, .int .i64 0, .int .i64 0]) 3 40 Tryz.underlying27 infAp rfl (by decide) o acc.length (acc.flatMap (El.cells eAp)) rfl hon #[.slice sx.a sx.xs.length sx.c, .int .i64 f1, .int .i64 f2] _ 1 1 rfl rfl (by intro q hq; simp at hq; rcases hq with rfl | rfl | rfl <;> rfl) (by unfold maxLen; omega) (by omega) LeW.le ?_; intro v' w1 ho' hg hat; obtain ⟨va, vc, rfl, hfm⟩ := own_form ho'.out; clear hfm; have hlo := hid (HI.out.low hg.out (D := D) hDW (by omega)); have hcw := (hYD.out.same hlo.out).1 7 _ rfl; have hfw := (hYD.out.same hlo.out).2 7) | fail)
                  go_roundw
                  case rel =>
                    have hsz := hg.out.size
                    simp only [World.size_alloc] at hsz
                    have hF : ∀ b, Fx b → wr.heap.size ≤ b ∧ b < Dh := fun b hb => by have := HFX.out b hb; omega
                    refine ⟨k + 1, by omega, by go_num, acc ++ [⟨sx, f1, f2⟩], _, a13, e15, _, by simp [HA.out], (HI.out.fp (by omega) GY.out hg.out).setCell (.inr (by omega)) _,
                      (HI.out.step KY.out (F' := Fx) (fun b h => by have := hF b h; omega) hBw (fun w' hs hsame => ⟨(HOKX.out w' (by omega) fun b hb => (hsame b hb).trans (NY1.out.blk b (by have := hF b hb; omega) (by have := hF b hb; omega) (by have := hF b hb; omega))), i64_byte l1f1 l2f1, i64_byte l1f2 l2f2⟩) (own_eq ho'.out (by simp) (by simp [eAp])) hg.out hat.out).keep (Kept.refl.set (.inl (by omega))),
                      (HI.out.rs (by omega) RY.out hg.out).setCell (by omega) _, ?_, hYZ.out.same ((Below.heap_setCell _ _ _ _ (by simp only; omega)).trans (HI.out.low hg.out (by omega) (by omega))), (hYD.out.same hlo.out).set 7 _ (by simp),
                      (LK.nod HI.out (HKK.out.trans NY.out) (Nat.le_refl _) hg.out).set _ _ (.inl rfl)⟩
                    rw [List.map_append, List.map_cons, List.map_nil]
                    exact HP.out.snoc (h11.out.bind (h12.out.bind (h13.out.bind (.pure _))))
                  case measure => simp [intOf]; omega
                · have hg2 : (e12 == 0) = false := by simp [he]
                  have HE := hid he
                  clear he
                  go_wp2_with fail
                  go_meet
                  obtain ⟨va, vc, rfl, -⟩ := own_form HI.out.own
                  exact ⟨⟨va, vc, acc⟩, acc.map Ap.er, a10, e12, hfp.out, RepL.safe (lo := w.heap.size + 1) (HI.out.done (er := Ap.er) (fun x _ => rfl)) (by omega) (by omega) (by omega), HR.out, Post.list h9.out HP.out OM (.inr HE.out), HZ.out, HB.out, HKK.out⟩
              · obtain rfl : k = N := by omega
                go_wp2_with fail
                go_meet
                obtain ⟨va, vc, rfl, -⟩ := own_form HI.out.own
                exact ⟨⟨va, vc, acc⟩, acc.map Ap.er, a10, e12, hfp.out, RepL.safe (lo := w.heap.size + 1) (HI.out.done (er := Ap.er) (fun x _ => rfl)) (by omega) (by omega) (by omega), HR.out, Post.list h9.out HP.out OM (.inl (by simp)), HZ.out, HB.out, HKK.out⟩
          case rest =>
            obtain ⟨s6, l6, a12, e12, gX, hI, rX, pX, zX, bX, nX⟩ := hcut
            have P6 := hid pX
            have G6 := hid gX
            have R6 := hid rX
            have Q1 := hid ((hA.out.next nX) _ NoD.refl)
            have Q2 := hid ((HS2.out.next nX) _ NoD.refl)
            have Q3 := hid ((HS3.out.next nX) _ NoD.refl)
            have Q4 := hid ((HS4.out.next nX) _ NoD.refl)
            have Q5 := hid ((HS5.out.next nX) _ NoD.refl)
            have Q6 := hid (hI _ NoD.refl)
            have b0 := bX.1 0 _ rfl; have b1 := bX.1 1 _ rfl; have b2 := bX.1 2 _ rfl; have b3 := bX.1 3 _ rfl; have b4 := bX.1 4 _ rfl; have b5 := bX.1 5 _ rfl; have b6 := bX.1 6 _ rfl; have b7 := bX.1 7 _ rfl
            have z0 := zX.1 0 _ rfl; have z1 := zX.1 1 _ rfl; have z2 := zX.1 2 _ rfl; have z3 := zX.1 3 _ rfl; have z4 := zX.1 4 _ rfl; have z5 := zX.1 5 _ rfl; have z6 := zX.1 6 _ rfl; have z7 := zX.1 7 _ rfl
            have zf := zX.2
            clear gX hI rX pX zX bX nX GW RW ZW BW hA HS2 HS3 HS4 HS5 h9
            go_wp2_with fail
            refine bodyPost_ret (v := .agg #[.slice sA.a sA.xs.length sA.c, .int .i64 mj, .int .i64 mn, .slice s2.a s2.xs.length s2.c, .slice s3.a s3.xs.length s3.c, .slice s4.a s4.xs.length s4.c, .slice s5.a s5.xs.length s5.c, .slice s6.a s6.xs.length s6.c]) (by simp [results, Tryz.results39, go_sem, z0, z1, z2, z3, z4, z5, z6, z7]) rfl ?_
            refine OutR.ret (a' := a12) (e' := e12) (by (with_reducible repeat' (first | exact Fp.refl | exact Hid.out (by assumption) | refine Fp.alloc ?_ _ | refine fp_ext _ ?_ | refine fp_px _ ?_ | refine Fp.drew ?_ | refine Fp.setCell ?_ (.inr (by omega)) _)); first | done | fail) (rep_pk (i := l2) (c := l3) (m := l4) (s := ps) (p := l6) ?_ ?_ ?_ ?_ ?_ ?_ (i64_byte l1mj l2mj) (i64_byte l1mn l2mn)) (by (with_reducible repeat' (first | exact Hid.out (by assumption) | refine Rs.alloc ?_ _ | refine Rs.ext _ ?_ | refine Rs.drew ?_ | refine Rs.setCell ?_ (by omega) _)); first | done | fail) (PM.out.bind (h0.out.bind (h1.out.bind (h2.out.bind (P2.out.bind (P3.out.bind (P4.out.bind (h5.out.bind (P6.out.bind (.pure _))))))))))
            · exact (Q1.out.keep (by (with_reducible repeat' (first | exact Kept.refl | refine Kept.set ?_ ?_ | refine Kept.px _ ?_ ?_ | refine Kept.alloc ?_ _ | refine Kept.ext _ ?_)); (all_goals (first | omega | (simp; done) | (simp; omega))))).from_ (by omega)
            · exact (Q2.out.keep (by (with_reducible repeat' (first | exact Kept.refl | refine Kept.set ?_ ?_ | refine Kept.px _ ?_ ?_ | refine Kept.alloc ?_ _ | refine Kept.ext _ ?_)); (all_goals (first | omega | (simp; done) | (simp; omega))))).from_ (by omega)
            · exact (Q3.out.keep (by (with_reducible repeat' (first | exact Kept.refl | refine Kept.set ?_ ?_ | refine Kept.px _ ?_ ?_ | refine Kept.alloc ?_ _ | refine Kept.ext _ ?_)); (all_goals (first | omega | (simp; done) | (simp; omega))))).from_ (by omega)
            · exact (Q4.out.keep (by (with_reducible repeat' (first | exact Kept.refl | refine Kept.set ?_ ?_ | refine Kept.px _ ?_ ?_ | refine Kept.alloc ?_ _ | refine Kept.ext _ ?_)); (all_goals (first | omega | (simp; done) | (simp; omega))))).from_ (by omega)
            · exact (Q5.out.keep (by (with_reducible repeat' (first | exact Kept.refl | refine Kept.set ?_ ?_ | refine Kept.px _ ?_ ?_ | refine Kept.alloc ?_ _ | refine Kept.ext _ ?_)); (all_goals (first | omega | (simp; done) | (simp; omega))))).from_ (by omega)
            · exact (Q6.out.keep (by (with_reducible repeat' (first | exact Kept.refl | refine Kept.set ?_ ?_ | refine Kept.px _ ?_ ?_ | refine Kept.alloc ?_ _ | refine Kept.ext _ ?_)); (all_goals (first | omega | (simp; done) | (simp; omega))))).from_ (by omega)
end Go.Proofs.YthagkijplklemaaGreatDoor
end
