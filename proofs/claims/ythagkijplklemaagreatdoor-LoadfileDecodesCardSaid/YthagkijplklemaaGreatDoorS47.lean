/- The reference's reader: a method. The reference's reader: names; lists of a package. -/
import Derived.Test.YthagkijplklemaaGreatDoorS46
import Derived.Test.YthagkijplklemaaGreatDoorS28
section
namespace Go.Proofs.YthagkijplklemaaGreatDoor
open Go.ChangeShapes Go.WideShapes Go.ChangeAt Go.RowKit Go.Sc
theorem i64_wide {n : Int} (h1 : 0 ≤ n) (h2 : n ≤ 65535) : i64ok n := ⟨by omega, by omega⟩
abbrev zM : List Value := [.bool false, .bool false, zV, nilV, zV, zV, zV, zV, zV, nilV, nilV]
def restM (st ab : Bool) : Rr Me := numP.bind fun c => (listP typP).bind fun ps => typP.bind fun t => numP.bind fun l => numP.bind fun s => codeP.bind fun k => (listP hdP).bind fun h => Rr.pure ⟨st, ab, c, .er ps, t, l, s, .er k, .er h⟩
/-- The box of a method while it is read. -/
abbrev bM (st ab : Bool) (c : Int) (ps : Value) (t : Ty) (l s : Int) (k h : Value) : List Value := [.bool st, .bool ab, .int .i64 c, ps, .int .i64 t.k, .int .i64 t.c.p, .int .i64 t.c.c, .int .i64 l, .int .i64 s, k, h]
def CutN (p : Nat) (w : World) (bs xs : List Int) (D B1 a : Nat) (e : Int) (st ab : Bool) (c : Int) (sT : Value) (ps : List Ty) (t : Ty) (lo sk : Int) (wx : World) : Prop :=
  ∃ (sl : Sl In) (ks : List In) (e' : Int), Fp p w wx ∧ RepL eIn 4 id B1 wx sl.v ks ∧ Rs p wx bs a e' ∧ Post (decR xs) bs a e ks a e' ∧ BoxL wx w.heap.size zM ∧ BoxL wx D (bM st ab c sT t lo sk sl.v nilV) ∧ RepL eTy 3 id B1 wx sT ps ∧ B1 ≤ wx.heap.size
def LoopZ (p : Nat) (w : World) (bs : List Int) (D B1 : Nat) (W2 : World) (a : Nat) (e : Int) (bx : Value → List Value) (k : Nat) (wr : World) : Prop :=
  ∃ (acc : List Hd) (F : Nat → Prop) (a' : Nat) (e' : Int) (o : Value), acc.length = k ∧ Fp p w wr ∧ LK eHd 4 112 W2.heap.size o wr acc F ∧ Rs p wr bs a' e' ∧ Post (repP hdP k) bs a e (acc.map id) a' e' ∧ BoxL wr w.heap.size zM ∧ BoxL wr D (bx o) ∧ Kept B1 W2 wr
def CutZ (p : Nat) (w : World) (bs : List Int) (D B1 : Nat) (W2 : World) (a : Nat) (e : Int) (bx : Value → List Value) (wx : World) : Prop :=
  ∃ (sl : Sl Hd) (is : List Hd) (a' : Nat) (e' : Int), Fp p w wx ∧ RepL eHd 4 id W2.heap.size wx sl.v is ∧ Rs p wx bs a' e' ∧ Post (listP hdP) bs a e is a' e' ∧ BoxL wx w.heap.size zM ∧ BoxL wx D (bx sl.v) ∧ Kept B1 W2 wx
set_option maxRecDepth 20000 in
set_option maxHeartbeats 4000000 in
theorem jmethod_any (p : Nat) (w : World) (bs : List Int) (a : Nat) (e : Int) (hR : Hid (Rs p w bs a e)) : Reads Tryz.prog 78 #[.pointer (some ⟨p, 0, none⟩)] p w bs a e meP RepMe := by
  unfold Reads
  have hp := hR.out.lt
  haveI : InW p w := ⟨hp⟩
  go_enter Tryz.func78, Tryz.ntmps78
  go_upto_region 2 with (first | (go_at_call 75; refine (jnum_any p _ bs a e (hid (by (with_reducible repeat' (first | exact Hid.out (by assumption) | refine Rs.alloc ?_ _ | refine Rs.ext _ ?_ | refine Rs.drew ?_ | refine Rs.setCell ?_ (by omega) _)); first | done | fail))).go (fun n a1 e1 v y hx hR h1 => ?_); obtain ⟨rfl, l1n, l2n⟩ := hx.out; clear hx; have hs := y.size; (try simp at hs)) | fail)
  haveI : Nq w.heap.size p y.val := ⟨by omega, by omega⟩
  have hRy : Hid (Rs p y.val bs a1 e1) := by assumption
  have g0 := hid (show Fp p w y.val from (by (with_reducible repeat' (first | exact Fp.refl | exact Hid.out (by assumption) | refine Fp.alloc ?_ _ | refine fp_ext _ ?_ | refine fp_px _ ?_ | refine Fp.drew ?_ | refine Fp.setCell ?_ (.inr (by omega)) _)); first | done | fail))
  have z0 : Hid (BoxL y.val w.heap.size zM) := hid ((BoxL.new w _ _).same (y.fp.block _ (by simp) (by omega)))
  go_upto_if 14 with fail
  go_cut [] (CutK p y.val bs a1 3 n e1)
  case first =>
    by_cases hn : 3 < n
    · have HN := hid hn
      go_wp2_with (first | (go_at_call 40; refine (jfail_any p _ bs a1 e1 4 (hid (by (with_reducible repeat' (first | exact Hid.out (by assumption) | refine Rs.alloc ?_ _ | refine Rs.ext _ ?_ | refine Rs.drew ?_ | refine Rs.setCell ?_ (by omega) _)); first | done | fail))).mono ?_; intro en w' hF; obtain ⟨rfl, y, e2, rfl, h2, hR⟩ := hF; have hs := y.size; (try simp at hs)) | fail)
      go_meet
      exact ⟨_, e2, rfl, by assumption, hid (.inr ⟨by have := HN.out; omega, h2⟩)⟩
    · have HN := hid hn
      go_wp2_with fail
      go_meet
      exact ⟨⟨y.val, Fp.refl⟩, e1, rfl, hRy, hid (.inl ⟨by have := HN.out; omega, rfl⟩)⟩
  case rest =>
    obtain ⟨y2, e2, rfl, hR2, HK⟩ := hcut
    have z2 := hid (z0.out.same (y2.fp.block _ (by omega) (by omega)))
    have g2 := hid (g0.out.trans y2.fp)
    have hs2 := y2.fp.size
    clear z0 g0 hRy hR
    go_upto_region 5 with (first | (go_at_call 75; refine (jnum_any p _ bs a1 e2 (hid (by (with_reducible repeat' (first | exact Hid.out (by assumption) | refine Rs.alloc ?_ _ | refine Rs.ext _ ?_ | refine Rs.drew ?_ | refine Rs.setCell ?_ (by omega) _)); first | done | fail))).go (fun c a2 e3 v y hx hR h2 => ?_); obtain ⟨rfl, l1c, l2c⟩ := hx.out; clear hx; have hs := y.size; (try simp at hs)) | fail)
    obtain ⟨st, hst⟩ : ∃ q : Bool, q = (n % 2 == 1) := ⟨_, rfl⟩
    obtain ⟨ab, hab⟩ : ∃ q : Bool, q = (n / 2 == 1) := ⟨_, rfl⟩
    rw [← hst, ← hab]
    have HST := hid hst
    have HAB := hid hab
    clear hst hab
    have hRy : Hid (Rs p y.val bs a2 e3) := by assumption
    have hs3 := y.fp.size
    have g3 := hid (g2.out.trans y.fp)
    have z3 := hid (z2.out.same (y.fp.block _ (by omega) (by omega)))
    obtain ⟨D, hD⟩ : ∃ D, D = y.val.heap.size := ⟨_, rfl⟩
    refine gen_v (fun V => Fp p w V ∧ Rs p V bs a2 e3 ∧ BoxL V w.heap.size zM ∧ BoxL V D (bM st ab c nilV ⟨0, ⟨0, 0⟩⟩ 0 0 nilV nilV) ∧ D < V.heap.size) ⟨g3.out.alloc _, hRy.out.alloc _, z3.out.same (Below.heap_alloc _ _ _ (by omega)), by rw [hD]; exact BoxL.new _ _ _, by rw [hD]; simp⟩ ?_
    rintro V ⟨gV, rV, zV', bV, hDV⟩
    rw [← hD]
    have G := hid gV
    have RV := hid rV
    have Z := hid zV'
    have BX := hid bV
    have hwV := gV.size
    have hwD : w.heap.size < D := by omega
    have hpD : p < D := by omega
    haveI : InW p V := ⟨by omega⟩
    haveI : Nq w.heap.size p V := ⟨by omega, by omega⟩
    haveI : Nq D p V := ⟨hDV, by omega⟩
    haveI : InW D V := ⟨hDV⟩
    have d3 := bV.1 3 _ rfl; have d4 := bV.1 4 _ rfl; have d5 := bV.1 5 _ rfl; have d6 := bV.1 6 _ rfl; have d7 := bV.1 7 _ rfl; have d8 := bV.1 8 _ rfl
    have df := bV.2
    clear gV rV zV' bV g3 z3 hRy g2 z2 hD
    go_upto_region 6 with (first | (go_at_call 79; refine (jtypes_any p _ bs a2 e3 (hid (by (with_reducible repeat' (first | exact Hid.out (by assumption) | refine Rs.alloc ?_ _ | refine Rs.ext _ ?_ | refine Rs.drew ?_ | refine Rs.setCell ?_ (by omega) _)); first | done | fail))).go (fun ps a3 e4 v yT hx3 hR h3 => ?_); obtain ⟨sT, FT, rfl, hqT, hFT, hokT⟩ := hx3.out; have szT := yT.size; (try simp at szT)) | fail)
    go_upto_region 7 with (first | (go_at_call 147; refine (jone_any p _ bs a3 e4 (hid (by (with_reducible repeat' (first | exact Hid.out (by assumption) | refine Rs.alloc ?_ _ | refine Rs.ext _ ?_ | refine Rs.drew ?_ | refine Rs.setCell ?_ (by omega) _)); first | done | fail))).go (fun x a4 e5 v yO hx4 hR h4 => ?_); obtain ⟨t, FO, rfl, hqO, -, hokO⟩ := hx4.out; simp only [id] at hqO; subst hqO; have okt := hid (hokO _ (Nat.le_refl _) fun _ _ => rfl); have szO := yO.size; (try simp at szO)) | fail)
    go_upto_region 8 with (first | (go_at_call 75; refine (jnum_any p _ bs a4 e5 (hid (by (with_reducible repeat' (first | exact Hid.out (by assumption) | refine Rs.alloc ?_ _ | refine Rs.ext _ ?_ | refine Rs.drew ?_ | refine Rs.setCell ?_ (by omega) _)); first | done | fail))).go (fun lo a5 e6 v yL hx5 hR h5 => ?_); obtain ⟨rfl, l1lo, l2lo⟩ := hx5.out; have szL := yL.size; (try simp at szL)) | fail)
    go_upto_region 9 with (first | (go_at_call 75; refine (jnum_any p _ bs a5 e6 (hid (by (with_reducible repeat' (first | exact Hid.out (by assumption) | refine Rs.alloc ?_ _ | refine Rs.ext _ ?_ | refine Rs.drew ?_ | refine Rs.setCell ?_ (by omega) _)); first | done | fail))).go (fun sk a6 e7 v yS hx6 hR h6 => ?_); obtain ⟨rfl, l1sk, l2sk⟩ := hx6.out; have szS := yS.size; (try simp at szS)) | fail)
    go_upto_region 10 with (first | (go_at_call 75; refine (jwide_any p _ bs a6 e7 (hid (by (with_reducible repeat' (first | exact Hid.out (by assumption) | refine Rs.alloc ?_ _ | refine Rs.ext _ ?_ | refine Rs.drew ?_ | refine Rs.setCell ?_ (by omega) _)); first | done | fail))).go (fun cl a7 e8 v yW hx7 hR h7 => ?_); obtain ⟨rfl, l1cl, l2cl⟩ := hx7.out; obtain ⟨K, rfl⟩ := Int.eq_ofNat_of_zero_le l1cl; have szW := yW.size; (try simp at szW)) | (go_at_call 144; refine (jbytes_any p K _ bs a7 e8 (by omega) (hid (by (with_reducible repeat' (first | exact Hid.out (by assumption) | refine Rs.alloc ?_ _ | refine Rs.ext _ ?_ | refine Rs.drew ?_ | refine Rs.setCell ?_ (by omega) _)); first | done | fail))).go (fun xs a8 e9 v yB hx8 hRB h8 => ?_); obtain ⟨⟨sb, FB, rfl, hqB, hFB, hokB⟩, hlB⟩ := hx8.out; have szB := yB.size; (try simp at szB)) | fail)
    have sTT : V.heap.size ≤ yT.val.heap.size := yT.fp.size
    have sO : yT.val.heap.size ≤ yO.val.heap.size := by have := yO.fp.size; simpa only [size_setCell] using this
    have sL : yO.val.heap.size ≤ yL.val.heap.size := by have := yL.fp.size; simpa only [size_setCell] using this
    have sS : yL.val.heap.size ≤ yS.val.heap.size := by have := yS.fp.size; simpa only [size_setCell] using this
    have sW : yS.val.heap.size ≤ yW.val.heap.size := by have := yW.fp.size; simpa only [size_setCell] using this
    have sB : yW.val.heap.size ≤ yB.val.heap.size := yB.fp.size
    have hne : D ≠ p := by omega
    have HD := hid (show BoxL yB.val D (bM st ab c sT.v t lo sk nilV nilV) from ((((((((((BX.out.same (yT.fp.block D (by omega) hne)).set 3 sT.v (by simp)).same (yO.fp.block D (by simp only [size_setCell]; omega) hne)).set 4 (.int .i64 t.k) (by simp)).set 5 (.int .i64 t.c.p) (by simp)).set 6 (.int .i64 t.c.c) (by simp)).same (yL.fp.block D (by simp only [size_setCell]; omega) hne)).set 7 (.int .i64 lo) (by simp)).same (yS.fp.block D (by simp only [size_setCell]; omega) hne)).set 8 (.int .i64 sk) (by simp)).same ((yB.fp.block D (by omega) hne).trans (yW.fp.block D (by simp only [size_setCell]; omega) hne)))
    have hND := hid (show NoD D p V yB.val from (by (repeat' (first | exact NoD.refl | refine NoD.px _ ?_ | refine NoD.ext _ ?_ | refine NoD.set _ _ ?_ (.inl rfl) | refine NoD.set _ _ ?_ (.inr ?_) | refine NoD.alloc _ ?_)); (all_goals omega)))
    obtain ⟨B1, hB1⟩ : ∃ B1, B1 = V.heap.size := ⟨_, rfl⟩
    refine gen_v (fun W1 => Fp p w W1 ∧ Rs p W1 bs a8 e9 ∧ BoxL W1 w.heap.size zM ∧ BoxL W1 D (bM st ab c sT.v t lo sk nilV nilV) ∧ RepL eTy 3 id B1 W1 sT.v ps ∧ Bytes W1 sb ∧ B1 ≤ W1.heap.size)
      ⟨((((((((((G.out.trans yT.fp).setCell (.inr (by omega)) _).trans yO.fp).setCell (.inr (by omega)) _).setCell (.inr (by omega)) _).setCell (.inr (by omega)) _).trans yL.fp).setCell (.inr (by omega)) _).trans yS.fp).setCell (.inr (by omega)) _).trans yW.fp |>.trans yB.fp, hRB.out, Z.out.same (hND.out.blk _ (by omega) (by omega) (by omega)), HD.out, by rw [hB1]; exact hx3.out.keep (by (with_reducible repeat' (first | exact Kept.refl | refine Kept.set ?_ ?_ | refine Kept.px _ ?_ ?_ | refine Kept.alloc ?_ _ | refine Kept.ext _ ?_)); (all_goals (first | omega | (simp; done) | (simp; omega)))), hokB _ (Nat.le_refl _) fun _ _ => rfl, by rw [hB1]; exact hND.out.size⟩ ?_
    have hDB : D < B1 := by omega
    have hlx : sb.xs = xs := by simpa using hqB
    have HLX := hid hlx
    clear hx3 hx8 hokT hokO hokB hFT hFB hND HD sTT sO sL sS sW sB hB1 hqT hqB hlx d3 d4 d5 d6 d7 d8 df Z BX G RV hRB hR szT szO szL szS szW szB
    rintro W1 ⟨gW, rW, zW, bW, tW, yW1, hBW⟩
    have GW := hid gW
    have RW := hid rW
    have ZW := hid zW
    have BW := hid bW
    have TW := hid tW
    have YW := hid yW1
    have hww := gW.size
    have hc2 := rW.err
    have d9 := bW.1 9 _ rfl
    have df := bW.2
    haveI : InW p W1 := ⟨rW.lt⟩
    haveI : Nq D p W1 := ⟨by omega, by omega⟩
    haveI : InW D W1 := ⟨by omega⟩
    haveI : Nq w.heap.size p W1 := ⟨by omega, by omega⟩
    clear gW rW zW bW tW yW1
    go_upto_if 46 with fail
    go_cut [] (CutN p w bs xs D B1 a8 e9 st ab c sT.v ps t lo sk)
    case first =>
      by_cases he : e9 = 0
      · subst he
        have hdc := rdecode_any sb W1 YW (by have := hlB; rw [HLX.out]; omega)
        rw [HLX.out] at hdc
        cases hdec : decP (xs.length + 1) 0 xs with
        | error d =>
          have gD : Hid (Calls Tryz.prog 148 #[sb.v] W1 fun e w' => ∃ x : Ext W1, w' = x.val ∧ e = .returned (.tuple #[nilV, .int .i64 d])) := hid (hdc.mono fun e w' ⟨hb, _, h3⟩ => ⟨⟨w', hb⟩, rfl, (h3 d hdec).2⟩)
          have hd0 := hid (dec_nz _ _ _ _ hdec)
          have HDEC := hid hdec
          clear hdc hdec
          go_wp2_with (first | (go_at_call 148; refine gD.out.mono ?_; rintro e w' ⟨x, rfl, rfl⟩; have sx := x.size) | (go_at_call 40; refine (jfail_any p _ bs a8 0 d (hid (by (with_reducible repeat' (first | exact Hid.out (by assumption) | refine Rs.alloc ?_ _ | refine Rs.ext _ ?_ | refine Rs.drew ?_ | refine Rs.setCell ?_ (by omega) _)); first | done | fail))).mono ?_; intro en w' hF; obtain ⟨rfl, y, e10, rfl, he10, hRy⟩ := hF; obtain rfl : e10 = d := (by simpa using he10); clear he10) | fail)
          go_meet
          exact ⟨⟨none, 0, []⟩, [], _, ((GW.out.trans (.of_below x.below)).setCell (.inr (by omega)) _).trans y.fp, repl_nil, hRy.out, dec_bad HDEC.out hd0.out, ZW.out.same ((show NoD D p W1 y.val from (by (repeat' (first | exact NoD.refl | refine NoD.px _ ?_ | refine NoD.ext _ ?_ | refine NoD.set _ _ ?_ (.inl rfl) | refine NoD.set _ _ ?_ (.inr ?_) | refine NoD.alloc _ ?_)); (all_goals omega))).blk _ (by omega) (by omega) (by omega)), ((BW.out.same (x.below.block D (by omega))).set 9 nilV (by simp)).same (y.fp.block D (by rw [size_setCell]; omega) (by omega)), TW.out.keep (by (with_reducible repeat' (first | exact Kept.refl | refine Kept.set ?_ ?_ | refine Kept.px _ ?_ ?_ | refine Kept.alloc ?_ _ | refine Kept.ext _ ?_)); (all_goals (first | omega | (simp; done) | (simp; omega)))), Nat.le_trans hBW (show NoD D p W1 y.val from (by (repeat' (first | exact NoD.refl | refine NoD.px _ ?_ | refine NoD.ext _ ?_ | refine NoD.set _ _ ?_ (.inl rfl) | refine NoD.set _ _ ?_ (.inr ?_) | refine NoD.alloc _ ?_)); (all_goals omega))).size⟩
        | ok l =>
          have gD : Hid (Calls Tryz.prog 148 #[sb.v] W1 fun e w' => ∃ (a : Option Addr) (c : Nat) (x : Ext W1), w' = x.val ∧ e = .returned (.tuple #[.slice a l.length c, .int .i64 0]) ∧ Hid (RepL eIn 4 id W1.heap.size x.val (.slice a l.length c) l)) := hid (hdc.mono fun e w' ⟨hb, h2, _⟩ => by
            obtain ⟨a, c, h4, h5, _⟩ := h2 l hdec
            exact ⟨a, c, ⟨w', hb⟩, rfl, h4, h5⟩)
          have HDEC := hid hdec
          clear hdc hdec
          go_wp2_with (first | (go_at_call 148; refine gD.out.mono ?_; rintro e w' ⟨da, dc, x, rfl, rfl, hrl⟩; have sx := x.size) | (go_at_call 40; refine (jfail_any p _ bs a8 0 0 (hid (by (with_reducible repeat' (first | exact Hid.out (by assumption) | refine Rs.alloc ?_ _ | refine Rs.ext _ ?_ | refine Rs.drew ?_ | refine Rs.setCell ?_ (by omega) _)); first | done | fail))).mono ?_; intro en w' hF; obtain ⟨rfl, y, e10, rfl, he10, hRy⟩ := hF; obtain rfl : e10 = 0 := (by simpa using he10); clear he10) | fail)
          go_meet
          exact ⟨⟨da, dc, l⟩, l, _, ((GW.out.trans (.of_below x.below)).setCell (.inr (by omega)) _).trans y.fp, (hrl.out.keep (show Kept W1.heap.size x.val y.val from (by (with_reducible repeat' (first | exact Kept.refl | refine Kept.set ?_ ?_ | refine Kept.px _ ?_ ?_ | refine Kept.alloc ?_ _ | refine Kept.ext _ ?_)); (all_goals (first | omega | (simp; done) | (simp; omega)))))).from_ hBW, hRy.out, dec_good HDEC.out, ZW.out.same ((show NoD D p W1 y.val from (by (repeat' (first | exact NoD.refl | refine NoD.px _ ?_ | refine NoD.ext _ ?_ | refine NoD.set _ _ ?_ (.inl rfl) | refine NoD.set _ _ ?_ (.inr ?_) | refine NoD.alloc _ ?_)); (all_goals omega))).blk _ (by omega) (by omega) (by omega)), ((BW.out.same (x.below.block D (by omega))).set 9 (.slice da l.length dc) (by simp)).same (y.fp.block D (by rw [size_setCell]; omega) (by omega)), TW.out.keep (by (with_reducible repeat' (first | exact Kept.refl | refine Kept.set ?_ ?_ | refine Kept.px _ ?_ ?_ | refine Kept.alloc ?_ _ | refine Kept.ext _ ?_)); (all_goals (first | omega | (simp; done) | (simp; omega)))), Nat.le_trans hBW (show NoD D p W1 y.val from (by (repeat' (first | exact NoD.refl | refine NoD.px _ ?_ | refine NoD.ext _ ?_ | refine NoD.set _ _ ?_ (.inl rfl) | refine NoD.set _ _ ?_ (.inr ?_) | refine NoD.alloc _ ?_)); (all_goals omega))).size⟩
      · have hg2 : (e9 == 0) = false := by simp [he]
        have HE := hid he
        clear he
        go_wp2_with fail
        go_meet
        exact ⟨⟨none, 0, []⟩, [], e9, GW.out, repl_nil, RW.out, dec_stay HE.out, ZW.out, BW.out, TW.out, hBW⟩
    case rest =>
      obtain ⟨sl, ks, e10, gX, hK, rX, pX, zX, bX, tX, hBX⟩ := hcut
      clear GW RW ZW BW TW YW d9 df hc2
      have hwx := gX.size
      haveI : InW p wc := ⟨rX.lt⟩
      haveI : Nq D p wc := ⟨by omega, by omega⟩
      haveI : Nq w.heap.size p wc := ⟨by omega, by omega⟩
      have RX := hid rX
      go_upto_block 0 with (first | (go_at_call 75; refine (jnum_any p _ bs a8 e10 (hid (by (with_reducible repeat' (first | exact Hid.out (by assumption) | refine Rs.alloc ?_ _ | refine Rs.ext _ ?_ | refine Rs.drew ?_ | refine Rs.setCell ?_ (by omega) _)); first | done | fail))).go (fun n2 a9 e11 v yN hx9 hRN h9 => ?_); obtain ⟨rfl, l1n2, l2n2⟩ := hx9.out) | fail)
      refine gen_v (fun W2 => Fp p w W2 ∧ Rs p W2 bs a9 e11 ∧ BoxL W2 w.heap.size zM ∧ BoxL W2 D (bM st ab c sT.v t lo sk sl.v nilV) ∧ RepL eTy 3 id B1 W2 sT.v ps ∧ RepL eIn 4 id B1 W2 sl.v ks ∧ B1 ≤ W2.heap.size)
        ⟨gX.trans yN.fp, hRN.out, zX.same (yN.fp.block _ (by omega) (by omega)), bX.same (yN.fp.block _ (by omega) (by omega)), tX.keep (by (with_reducible repeat' (first | exact Kept.refl | refine Kept.set ?_ ?_ | refine Kept.px _ ?_ ?_ | refine Kept.alloc ?_ _ | refine Kept.ext _ ?_)); (all_goals (first | omega | (simp; done) | (simp; omega)))), hK.keep (by (with_reducible repeat' (first | exact Kept.refl | refine Kept.set ?_ ?_ | refine Kept.px _ ?_ ?_ | refine Kept.alloc ?_ _ | refine Kept.ext _ ?_)); (all_goals (first | omega | (simp; done) | (simp; omega)))), Nat.le_trans hBX yN.fp.size⟩ ?_
      have PX := hid pX
      clear gX hK rX pX zX bX tX hRN hx9
      rintro W2 ⟨gW, rW, zW, bW, hE2, hE3, hB2⟩
      have GW := hid gW
      have RW := hid rW
      have ZW := hid zW
      have BW := hid bW
      have X2 := hid hE2
      have X3 := hid hE3
      have hww2 := gW.size
      have hpW := rW.lt
      have hDW : D < W2.heap.size := by omega
      clear gW rW zW bW hE2 hE3
      obtain ⟨M, rfl⟩ := Int.eq_ofNat_of_zero_le l1n2
      go_cut [] (CutZ p w bs D B1 W2 a8 e10 (fun h => bM st ab c sT.v t lo sk sl.v h))
      case first =>
        go_wp2_with fail
        go_loopw [9, 10] (fun i _ wr => ∃ k : Nat, k ≤ M ∧ i = .int .i64 k ∧ LoopZ p w bs D B1 W2 a9 e11 (fun h => bM st ab c sT.v t lo sk sl.v h) k wr) (fun i _ _ => M - (intOf i).toNat)
        case atStart => exact ⟨0, Nat.zero_le _, rfl, [], _, a9, e11, nilV, rfl, GW.out, LK.start, RW.out, .pure _, ZW.out, BW.out, Kept.refl⟩
        case round =>
          clear GW RW ZW BW X2 X3
          obtain ⟨k, hk, rfl, acc, F, a10, e12, o, hak, hf, hI, hRs, hP, hz, hb, hkk⟩ := hrel
          have HI := hid hI
          have HA := hid hak
          have hfp := hid hf
          have HR := hid hRs
          have HP := hid hP
          have HZ := hid hz
          have HB := hid hb
          have HKK := hid hkk
          have hwr := hf.size
          have hBw := hkk.size
          have hc2 := hRs.err
          haveI : InW p wr := ⟨hRs.lt⟩
          haveI : LeW W2.heap.size wr := ⟨hBw⟩
          haveI : Nq D p wr := ⟨by omega, by omega⟩
          haveI : InW D wr := ⟨by omega⟩
          haveI : Nq w.heap.size p wr := ⟨by omega, by omega⟩
          have hcD := hb.1 10 _ rfl
          clear hI hak hf hRs hP hz hb hkk
          by_cases hlt : k < M
          · by_cases he : e12 = 0
            · subst he
              have hal : acc.length ≤ 255 := by have := HA.out; omega
              go_upto_region 19 with (first | (go_at_call 75; refine (jwide_any p _ bs a10 0 (hid (by (with_reducible repeat' (first | exact Hid.out (by assumption) | refine Rs.alloc ?_ _ | refine Rs.ext _ ?_ | refine Rs.drew ?_ | refine Rs.setCell ?_ (by omega) _)); first | done | fail))).go (fun f1 a11 e13 v y1 hx1 hR1 h11 => ?_); obtain ⟨rfl, l1f1, l2f1⟩ := hx1.out; have s1 := y1.size; haveI : InW p y1.val := inferInstance) | fail)
              go_upto_region 20 with (first | (go_at_call 75; refine (jwide_any p _ bs a11 e13 (hid (by (with_reducible repeat' (first | exact Hid.out (by assumption) | refine Rs.alloc ?_ _ | refine Rs.ext _ ?_ | refine Rs.drew ?_ | refine Rs.setCell ?_ (by omega) _)); first | done | fail))).go (fun f2 a12 e14 v y2 hx2 hR2 h12 => ?_); obtain ⟨rfl, l1f2, l2f2⟩ := hx2.out; have s2 := y2.size; (try simp at s2)) | fail)
              go_upto_region 21 with (first | (go_at_call 75; refine (jwide_any p _ bs a12 e14 (hid (by (with_reducible repeat' (first | exact Hid.out (by assumption) | refine Rs.alloc ?_ _ | refine Rs.ext _ ?_ | refine Rs.drew ?_ | refine Rs.setCell ?_ (by omega) _)); first | done | fail))).go (fun f3 a13 e15 v y3 hx3 hR3 h13 => ?_); obtain ⟨rfl, l1f3, l2f3⟩ := hx3.out; have s3 := y3.size; (try simp at s3)) | fail)
              go_upto_region 22 with (first | (go_at_call 75; refine (jwide_any p _ bs a13 e15 (hid (by (with_reducible repeat' (first | exact Hid.out (by assumption) | refine Rs.alloc ?_ _ | refine Rs.ext _ ?_ | refine Rs.drew ?_ | refine Rs.setCell ?_ (by omega) _)); first | done | fail))).go (fun f4 a14 e16 v y4 hx4 hR4 h14 => ?_); obtain ⟨rfl, l1f4, l2f4⟩ := hx4.out; have s4 := y4.size; (try simp at s4)) | fail)
              have q2 : y1.val.heap.size + 1 ≤ y2.val.heap.size := by have := y2.fp.size; simpa using this
              have q3 : y2.val.heap.size ≤ y3.val.heap.size := by have := y3.fp.size; simpa only [size_setCell] using this
              have q4 : y3.val.heap.size ≤ y4.val.heap.size := by have := y4.fp.size; simpa only [size_setCell] using this
              obtain ⟨Dh, hDh⟩ : ∃ Dh, Dh = y1.val.heap.size := ⟨_, rfl⟩
              have hwD : wr.heap.size ≤ Dh := by omega
              have hpDh : Dh ≠ p := by omega
              refine gen_v (fun Y => Kept W2.heap.size wr Y ∧ Kept B1 wr Y ∧ NoD Dh p wr Y ∧ Rs p Y bs a14 e16 ∧ Fp p w Y ∧ BoxL Y Dh [.int .i64 f1, .int .i64 f2, .int .i64 f3, .int .i64 f4] ∧ Dh < Y.heap.size)
                ⟨(by (with_reducible repeat' (first | exact Kept.refl | refine Kept.set ?_ ?_ | refine Kept.px _ ?_ ?_ | refine Kept.alloc ?_ _ | refine Kept.ext _ ?_)); (all_goals (first | omega | (simp; done) | (simp; omega)))), (by (with_reducible repeat' (first | exact Kept.refl | refine Kept.set ?_ ?_ | refine Kept.px _ ?_ ?_ | refine Kept.alloc ?_ _ | refine Kept.ext _ ?_)); (all_goals (first | omega | (simp; done) | (simp; omega)))), by (have := s1; rw [hDh]; exact (by (repeat' (first | exact NoD.refl | refine NoD.px _ ?_ | refine NoD.ext _ ?_ | refine NoD.set _ _ ?_ (.inl rfl) | refine NoD.set _ _ ?_ (.inr ?_) | refine NoD.alloc _ ?_)); (all_goals omega))), (by (with_reducible repeat' (first | exact Hid.out (by assumption) | refine Rs.alloc ?_ _ | refine Rs.ext _ ?_ | refine Rs.drew ?_ | refine Rs.setCell ?_ (by omega) _)); first | done | fail),
                  (((((((hfp.out.trans y1.fp).alloc _).trans y2.fp).setCell (.inr (by omega)) _).trans y3.fp).setCell (.inr (by omega)) _).trans y4.fp).setCell (.inr (by omega)) _,
                  by rw [hDh]; exact ((((((BoxL.new y1.val _ _).same (y2.fp.block _ (by simp) (by omega))).set 1 (.int .i64 f2) (by simp)).same (y3.fp.block _ (by simp only [size_setCell]; omega) (by omega))).set 2 (.int .i64 f3) (by simp)).same (y4.fp.block _ (by simp only [size_setCell]; omega) (by omega))).set 3 (.int .i64 f4) (by simp),
                  by rw [size_setCell]; omega⟩ ?_
              rintro Y ⟨kY, kY1, nY, rY, gY, bY, lY⟩
              rw [← hDh]
              have KY := hid kY
              have KY1 := hid kY1
              have NY := hid nY
              have RY := hid rY
              have GY := hid gY
              have i0 := bY.1 0 _ rfl; have i1 := bY.1 1 _ rfl; have i2 := bY.1 2 _ rfl; have i3 := bY.1 3 _ rfl
              have hYD := hid (HB.out.same (nY.blk D (by omega) (by omega) (by omega)))
              have hYZ := hid (HZ.out.same (nY.blk w.heap.size (by omega) (by omega) (by omega)))
              have j10 := hYD.out.1 10 _ rfl
              have hon : Hid (Y.ownsRow W2.heap.size 112 4 o acc.length (acc.flatMap (El.cells eHd))) := hid (HI.out.keep kY).own
              have hYs := nY.size
              haveI : LeW W2.heap.size Y := ⟨by omega⟩
              clear kY kY1 nY rY gY bY hDh s1 q2 q3 q4 hR1 hR2 hR3 hR4
              go_wp2_with (first | (at_builtin; refine wpList_appL Y rfl _ _ 53 rfl W2.heap.size 112 (.agg #[.int .i64 0, .int .i64 0, .int .i64 0, .int .i64 0]) 4 32 Tryz.underlying53 infHd rfl (by decide) o acc.length (acc.flatMap (El.cells eHd)) rfl hon #[.int .i64 f1, .int .i64 f2, .int .i64 f3, .int .i64 f4] _ 1 1 rfl rfl (by intro q hq; simp at hq; rcases hq with rfl | rfl | rfl | rfl <;> rfl) (by unfold maxLen; omega) (by omega) LeW.le ?_; intro v' w1 ho' hg hat; obtain ⟨va, vc, rfl, hfm⟩ := own_form ho'.out; clear hfm; have hlo := hid (HI.out.low hg.out (D := D) hDW (by omega)); have hcw := (hYD.out.same hlo.out).1 10 _ rfl; have hfw := (hYD.out.same hlo.out).2 10) | fail)
              go_roundw
              case rel =>
                have hsz := hg.out.size
                simp only [World.size_alloc] at hsz
                refine ⟨k + 1, by omega, by go_num, acc ++ [⟨f1, f2, f3, f4⟩], _, a14, e16, _, by simp [HA.out], (HI.out.fp (by omega) GY.out hg.out).setCell (.inr (by omega)) _,
                  (HI.out.step KY.out (F' := fun _ => False) (fun b h => h.elim) hBw (fun w' _ _ => ⟨i64_wide l1f1 l2f1, i64_wide l1f2 l2f2, i64_wide l1f3 l2f3, i64_wide l1f4 l2f4⟩) (own_eq ho'.out (by simp) (by simp [eHd])) hg.out hat.out).keep (Kept.refl.set (.inl (by omega))),
                  (HI.out.rs (by omega) RY.out hg.out).setCell (by omega) _, ?_, hYZ.out.same ((Below.heap_setCell _ _ _ _ (by simp only; omega)).trans (HI.out.low hg.out (by omega) (by omega))), (hYD.out.same hlo.out).set 10 _ (by simp),
                  (LK.kept HI.out (⟨Nat.le_trans HKK.out.size KY1.out.size, fun b h1 h2 => (KY1.out.blk b h1 (Nat.lt_of_lt_of_le h2 HKK.out.size)).trans (HKK.out.blk b h1 h2)⟩) (Nat.le_refl _) hg.out).set (.inl (by omega))⟩
                rw [List.map_append, List.map_cons, List.map_nil]
                exact HP.out.snoc (h11.out.bind (h12.out.bind (h13.out.bind (h14.out.bind (.pure _)))))
              case measure => simp [intOf]; omega
            · have hg2 : (e12 == 0) = false := by simp [he]
              have HE := hid he
              clear he
              go_wp2_with fail
              go_meet
              obtain ⟨va, vc, rfl, -⟩ := own_form HI.out.own
              exact ⟨⟨va, vc, acc⟩, acc.map id, a10, e12, hfp.out, HI.out.done (er := id) (fun x _ => rfl), HR.out, Post.list h9.out HP.out OM (.inr HE.out), HZ.out, HB.out, HKK.out⟩
          · obtain rfl : k = M := by omega
            go_wp2_with fail
            go_meet
            obtain ⟨va, vc, rfl, -⟩ := own_form HI.out.own
            exact ⟨⟨va, vc, acc⟩, acc.map id, a10, e12, hfp.out, HI.out.done (er := id) (fun x _ => rfl), HR.out, Post.list h9.out HP.out OM (.inl (by simp)), HZ.out, HB.out, HKK.out⟩
      case rest =>
        obtain ⟨s4, is, a10, e12, gY, hI4, rY, pI, zY, bY, kY⟩ := hcut
        have b0 := bY.1 0 _ rfl; have b1 := bY.1 1 _ rfl; have b2 := bY.1 2 _ rfl; have b3 := bY.1 3 _ rfl; have b4 := bY.1 4 _ rfl; have b5 := bY.1 5 _ rfl; have b6 := bY.1 6 _ rfl; have b7 := bY.1 7 _ rfl; have b8 := bY.1 8 _ rfl; have b9 := bY.1 9 _ rfl; have b10 := bY.1 10 _ rfl
        have z0 := zY.1 0 _ rfl; have z1 := zY.1 1 _ rfl; have z2 := zY.1 2 _ rfl; have z3 := zY.1 3 _ rfl; have z4 := zY.1 4 _ rfl; have z5 := zY.1 5 _ rfl; have z6 := zY.1 6 _ rfl; have z7 := zY.1 7 _ rfl; have z8 := zY.1 8 _ rfl; have z9 := zY.1 9 _ rfl; have z10 := zY.1 10 _ rfl
        have zf := zY.2
        have GY := hid gY
        have HI4 := hid hI4
        have RY := hid rY
        have PI := hid pI
        have KY := hid kY
        clear gY hI4 rY pI kY zY bY GW RW ZW BW
        go_wp2_with fail
        refine bodyPost_ret (v := .agg #[.bool st, .bool ab, .int .i64 c, .slice sT.a sT.xs.length sT.c, .int .i64 t.k, .int .i64 t.c.p, .int .i64 t.c.c, .int .i64 lo, .int .i64 sk, .slice sl.a sl.xs.length sl.c, .slice s4.a s4.xs.length s4.c]) (by simp [results, Tryz.results78, go_sem, z0, z1, z2, z3, z4, z5, z6, z7, z8, z9, z10]) rfl ?_
        have hcode : Post codeP bs a6 e7 ks a8 e10 := (h7.out.bind (h8.out.bind PX.out))
        have hfl : ¬ 3 < n → restM st ab = restM (n % 2 == 1) (decide (2 ≤ n)) := fun hn => by
          rw [HST.out, HAB.out]
          congr 1
          rw [Bool.eq_iff_iff]
          simp
          omega
        refine OutR.ret (a' := a10) (e' := e12) (by (with_reducible repeat' (first | exact Fp.refl | exact Hid.out (by assumption) | refine Fp.alloc ?_ _ | refine fp_ext _ ?_ | refine fp_px _ ?_ | refine Fp.drew ?_ | refine Fp.setCell ?_ (.inr (by omega)) _)); first | done | fail) (rep_me (e := ps) (f := ks) (v := is) ?_ ?_ ?_ okt.out (i64_byte l1c l2c) (i64_byte l1lo l2lo) (i64_byte l1sk l2sk)) (by (with_reducible repeat' (first | exact Hid.out (by assumption) | refine Rs.alloc ?_ _ | refine Rs.ext _ ?_ | refine Rs.drew ?_ | refine Rs.setCell ?_ (by omega) _)); first | done | fail) (h1.out.bind (kind_post2 (P' := restM st ab) HK.out (h2.out.bind (h3.out.bind (h4.out.bind (h5.out.bind (h6.out.bind (hcode.bind (PI.out.bind (.pure _)))))))) hfl))
        · exact ((X2.out.keep KY.out).keep (by (with_reducible repeat' (first | exact Kept.refl | refine Kept.set ?_ ?_ | refine Kept.px _ ?_ ?_ | refine Kept.alloc ?_ _ | refine Kept.ext _ ?_)); (all_goals (first | omega | (simp; done) | (simp; omega))))).from_ (by omega)
        · exact ((X3.out.keep KY.out).keep (by (with_reducible repeat' (first | exact Kept.refl | refine Kept.set ?_ ?_ | refine Kept.px _ ?_ ?_ | refine Kept.alloc ?_ _ | refine Kept.ext _ ?_)); (all_goals (first | omega | (simp; done) | (simp; omega))))).from_ (by omega)
        · exact (HI4.out.keep (by (with_reducible repeat' (first | exact Kept.refl | refine Kept.set ?_ ?_ | refine Kept.px _ ?_ ?_ | refine Kept.alloc ?_ _ | refine Kept.ext _ ?_)); (all_goals (first | omega | (simp; done) | (simp; omega))))).from_ (by omega)
end Go.Proofs.YthagkijplklemaaGreatDoor
end

section
namespace Go.Proofs.YthagkijplklemaaGreatDoor
open Go.ChangeShapes Go.WideShapes Go.ChangeAt Go.RowKit Go.Sc
theorem jname_any (p : Nat) (w : World) (bs : List Int) (a : Nat) (e : Int) (hR : Hid (Rs p w bs a e)) : Reads Tryz.prog 76 #[.pointer (some ⟨p, 0, none⟩)] p w bs a e aidP (RepL eByte 1 id) := by
  unfold Reads
  have hp := hR.out.lt
  haveI : InW p w := ⟨hp⟩
  go_enter Tryz.func76, Tryz.ntmps76
  go_wp2_with (first | (go_at_call 75; refine (jnum_any p _ bs a e (hid (by (with_reducible repeat' (first | exact Hid.out (by assumption) | refine Rs.alloc ?_ _ | refine Rs.ext _ ?_ | refine Rs.drew ?_ | refine Rs.setCell ?_ (by omega) _)); first | done | fail))).go (fun n a1 e1 v y1 hx1 hR1 h1 => ?_); obtain ⟨rfl, l1n, l2n⟩ := hx1.out; obtain ⟨K, rfl⟩ := Int.eq_ofNat_of_zero_le l1n; have s1 := y1.fp.size) | (go_at_call 144; refine (jbytes_any p K _ bs a1 e1 (by omega) (hid (by (with_reducible repeat' (first | exact Hid.out (by assumption) | refine Rs.alloc ?_ _ | refine Rs.ext _ ?_ | refine Rs.drew ?_ | refine Rs.setCell ?_ (by omega) _)); first | done | fail))).go (fun xs a2 e2 v y2 hx2 hR2 h2 => ?_)) | fail)
  go_ret
  exact OutR.ret ((Fp.refl.trans y1.fp).trans y2.fp) (hx2.out.1.from_ s1) hR2.out (h1.out.bind h2.out)
theorem NoD.trans {D p : Nat} {a b c : World} (h : NoD D p a b) (k : NoD D p b c) : NoD D p a c := ⟨Nat.le_trans h.size k.size, fun i h1 h2 h3 => (k.blk i (Nat.lt_of_lt_of_le h1 h.size) h2 h3).trans (h.blk i h1 h2 h3)⟩
theorem NoD.kept {D p lo : Nat} {a b : World} (h : NoD D p a b) (h1 : D < lo) (h2 : p < lo) : Kept lo a b := ⟨h.size, fun i h3 h4 => h.blk i h4 (by omega) (by omega)⟩
theorem LK.nod {α : Type} {E : El α} {m base D p : Nat} {t T : TypeId} {W wr y w1 : World} {o : Value} {acc : List α} {F : Nat → Prop} (h : LK E m t base o wr acc F) (k : NoD D p W y) (hb : W.heap.size ≤ base) {us : Array Value} (hg : (y.alloc (.cells us T)).grownBy w1 o.ownBlock) : NoD D p W w1 := by
  have hsz := hg.size
  simp only [World.size_alloc] at hsz
  have := k.size
  exact ⟨by omega, fun b h1 h2 h3 => (h.low hg (by omega) (by omega)).trans (k.blk b h1 h2 h3)⟩
/-- What does not turn while only blocks p and D do. -/
def Safe (D p : Nat) (W : World) (P : World → Prop) : Prop := ∀ V, NoD D p W V → P V
theorem Safe.next {D p : Nat} {W V : World} {P : World → Prop} (h : Safe D p W P) (k : NoD D p W V) : Safe D p V P := fun U hU => h U (k.trans hU)
theorem RepL.safe {α : Type} {E : El α} {m base lo D p : Nat} {er : α → α} {W : World} {v : Value} {xs : List α} (h : RepL E m er base W v xs) (h1 : D < base) (h2 : p < base) (h3 : lo ≤ base) : Safe D p W (fun V => RepL E m er lo V v xs) := fun _ hV => (h.keep (hV.kept h1 h2)).from_ h3
def LoopR {α : Type} (E : El α) (m : Nat) (t : TypeId) (er : α → α) (f : Rr α) (p : Nat) (w : World) (bs : List Int) (D : Nat) (W2 : World) (a : Nat) (e : Int) (zR : List Value) (bx : Value → List Value) (k : Nat) (wr : World) : Prop :=
  ∃ (acc : List α) (F : Nat → Prop) (a' : Nat) (e' : Int) (o : Value), acc.length = k ∧ Fp p w wr ∧ LK E m t W2.heap.size o wr acc F ∧ Rs p wr bs a' e' ∧ Post (repP f k) bs a e (acc.map er) a' e' ∧ BoxL wr w.heap.size zR ∧ BoxL wr D (bx o) ∧ NoD D p W2 wr
def CutR {α : Type} (E : El α) (m : Nat) (er : α → α) (f : Rr α) (p : Nat) (w : World) (bs : List Int) (D : Nat) (W2 : World) (a : Nat) (e : Int) (zR : List Value) (bx : Value → List Value) (wx : World) : Prop :=
  ∃ (sl : Sl α) (is : List α) (a' : Nat) (e' : Int), Fp p w wx ∧ Safe D p wx (fun V => RepL E m er (w.heap.size + 1) V sl.v is) ∧ Rs p wx bs a' e' ∧ Post (listP f) bs a e is a' e' ∧ BoxL wx w.heap.size zR ∧ BoxL wx D (bx sl.v) ∧ NoD D p W2 wx
/-- What is left of the magic bytes. -/
def magR : Nat → Rr Unit
  | 0 => magicP
  | 1 => numP.bind fun y => if y = 67 then numP.bind fun z => if z = 49 then Rr.pure () else Rr.fail 4 else Rr.fail 4
  | 2 => numP.bind fun z => if z = 49 then Rr.pure () else Rr.fail 4
  | _ => Rr.pure ()
def magV : Nat → Int
  | 0 => 83
  | 1 => 67
  | _ => 49
theorem magR_eq {k : Nat} (hk : k < 3) : magR k = numP.bind fun x => if x = magV k then magR (k + 1) else Rr.fail 4 := by
  match k, hk with
  | 0, _ => rfl
  | 1, _ => rfl
  | 2, _ => rfl
/-- One byte of the magic, as the reference reads it. -/
theorem mag_step {bs : List Int} {k a a1 a' : Nat} {e e1 e2 e' x : Int} (hk : k < 3) (h : Post numP bs a e x a1 e1) (he : (x = magV k ∧ e2 = e1) ∨ (x ≠ magV k ∧ e2 = if e1 = 0 then 4 else e1)) (hf : Post (magR (k + 1)) bs a1 e2 () a' e') : Post (magR k) bs a e () a' e' := by
  rw [magR_eq hk]
  refine h.bind ?_
  rcases he with ⟨h1, rfl⟩ | ⟨h1, h2⟩
  · rw [if_pos h1]; exact hf
  · rw [if_neg h1]; exact Post.fail (by decide) h2 hf
end Go.Proofs.YthagkijplklemaaGreatDoor
end
