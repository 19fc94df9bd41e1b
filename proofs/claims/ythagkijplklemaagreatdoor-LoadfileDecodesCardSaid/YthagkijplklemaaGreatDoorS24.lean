/- The program's reader: a class. -/
import Derived.Test.YthagkijplklemaaGreatDoorS23
section
namespace Go.Proofs.YthagkijplklemaaGreatDoor
open Go.ChangeShapes Go.WideShapes Go.ChangeAt Go.RowKit Go.Sc
def Cl.er (x : Cl) : Cl := ⟨x.super, x.isI, .er x.ext.xs, .er x.fields.xs, .er x.virt.xs, .er (x.impls.xs.map Im.er)⟩
abbrev RepCl : Rp Cl := RepE eCl Cl.v Cl.er
theorem infIm : (Tryz.prog.info? 59).map (fun i => (i.zero, i.size, i.bytes)) = some (some (.agg #[.int .i64 0, .int .i64 0, .slice none 0 0]), 3, 40) := by kernel_rfl
set_option maxRecDepth 20000 in
set_option maxHeartbeats 1000000 in
theorem rlist_im (p : Nat) (w : World) (bs : List Int) (f : Rr Im) (hR : Hid (Rd p w bs)) (hrep : ∀ base W v x, RepIm base W v x → RepE eIm Im.v Im.er base W v x)
    (hf : Hid (∀ (W : World) (cs : List Int), Rd p W cs → Parses 101 Tryz.prog 198 #[.pointer (some ⟨p, 0, none⟩)] p W (f cs) RepIm)) :
    Parses 101 Tryz.prog 197 #[.pointer (some ⟨p, 0, none⟩), .func (.func 198) #[.pointer (some ⟨p, 0, none⟩)] #[]] p w (listP f bs) (RepL eIm 3 Im.er) := by
  unfold Parses
  have hp := hR.out.1
  haveI : InW p w := ⟨hp⟩
  haveI : LeW w.heap.size w := LeW.refl
  go_enter Tryz.func197, Tryz.ntmps197
  go_wp2_with (first | (go_at_call 132; refine (rnum_any p _ bs (hid (by (with_reducible repeat' (first | exact Hid.out (by assumption) | refine Rd.alloc ?_ _ | refine Rd.ext _ ?_ | refine Rd.drew ?_ | refine Rd.setCell ?_ (by omega) _)); first | done | fail))).go (fun n r1 v y h1 hx hR => ?_) (fun c y hr => ⟨rfl, RdOut.err (by (with_reducible repeat' (first | exact Fp.refl | exact Hid.out (by assumption) | refine Fp.alloc ?_ _ | refine fp_ext _ ?_ | refine fp_px _ ?_ | refine Fp.drew ?_ | refine Fp.setCell ?_ (.inr (by omega)) _)); first | done | fail) (Rr.bind_err hr.out)⟩); obtain ⟨rfl, l1n, l2n⟩ := hx.out; clear hx; have hs := y.size; (try simp at hs)) | fail)
  obtain ⟨N, rfl⟩ := Int.eq_ofNat_of_zero_le l1n
  have HS0 : Hid (listP f bs = withP (([] : List Im).map Im.er) (repP f (N - 0)) r1) := hid ((Rr.bind_ok h1.out).trans (by rw [List.map_nil, withP_nil]; simp))
  clear h1
  go_loopw [5, 8] (fun o i wr => ∃ (k : Nat) (acc : List Im) (F : Nat → Prop) (r : List Int), k ≤ N ∧ acc.length = k ∧ i = .int .i64 k ∧ LInv eIm 3 59 p w o wr acc F r ∧ Hid (listP f bs = withP (acc.map Im.er) (repP f (N - k)) r)) (fun _ i _ => N - (intOf i).toNat)
  case atStart => exact ⟨0, [], _, r1, Nat.zero_le _, rfl, rfl, LInv.start (by (with_reducible repeat' (first | exact Fp.refl | exact Hid.out (by assumption) | refine Fp.alloc ?_ _ | refine fp_ext _ ?_ | refine fp_px _ ?_ | refine Fp.drew ?_ | refine Fp.setCell ?_ (.inr (by omega)) _)); first | done | fail) hR.out, HS0⟩
  case round =>
    obtain ⟨k, acc, F, r, hk, hak, rfl, hI, HS⟩ := hrel
    have HI := hid hI
    have HA := hid hak
    have hfp := hid hI.fp
    have hRd := hid hI.rd
    have hwr := hI.fp.size
    haveI : LeW w.heap.size wr := ⟨hwr⟩
    clear hI hak
    by_cases hlt : k < N
    · obtain ⟨M, hM⟩ : ∃ M, N - k = M + 1 := ⟨N - k - 1, by omega⟩
      have HM := hid hM
      clear hM
      have hHS : Hid (listP f bs = withP (acc.map Im.er) (repP f (M + 1)) r) := hid (by rw [← HM.out]; exact HS.out)
      have hal : acc.length ≤ 255 := by have := HA.out; omega
      go_wp2_with (first | (go_at_call 198; refine (hf.out _ r hRd.out).go (fun x r2 v y hx hrp hR2 => ?_) (fun c y hr => ⟨rfl, RdOut.err (by (with_reducible repeat' (first | exact Fp.refl | exact Hid.out (by assumption) | refine Fp.alloc ?_ _ | refine fp_ext _ ?_ | refine fp_px _ ?_ | refine Fp.drew ?_ | refine Fp.setCell ?_ (.inr (by omega)) _)); first | done | fail) (hHS.out.trans (withP_err hr.out))⟩); obtain ⟨c, G, rfl, hc, hG, hok⟩ := hrep _ _ _ _ hrp.out; have HC := hid hc; have HG := hid hG; have HOK := hid hok; clear hc hG hok hrp; have hon : Hid (y.val.ownsRow w.heap.size 59 3 u5 acc.length (acc.flatMap (El.cells eIm))) := hid (own_same HI.out.own fun b hb => y.fp.block b (HI.out.own.lt b hb).2 (by have := (HI.out.own.lt b hb).1; omega)); haveI : LeW w.heap.size y.val := ⟨Nat.le_trans hwr y.fp.size⟩) | (at_builtin; refine wpList_appL _ rfl _ _ 47 rfl w.heap.size 59 (.agg #[.int .i64 0, .int .i64 0, .slice none 0 0]) 3 40 Tryz.underlying47 infIm rfl (by decide) u5 acc.length (acc.flatMap (El.cells eIm)) rfl hon #[.int .i64 c.i.p, .int .i64 c.i.c, .slice c.ms.a c.ms.xs.length c.ms.c] _ 1 1 rfl rfl (by intro q hq; simp at hq; (repeat' (rcases hq with rfl | hq)); all_goals (first | rfl | (subst hq; rfl))) (by unfold maxLen; omega) (by omega) LeW.le ?_; intro v' w1 ho' hg hat) | fail)
      go_roundw
      case rel =>
        refine ⟨k + 1, acc ++ [c], _, r2, by omega, by have := HA.out; simp; omega, by go_num, HI.out.step hp y HG.out HOK.out hR2.out (own_eq ho'.out (by simp) (by simp [eIm])) hg.out hat.out, hid ?_⟩
        rw [hHS.out, withP_ok hx.out, List.map_append, show N - (k + 1) = M from by have := HM.out; omega, List.map_cons, List.map_nil, HC.out]
      case measure => simp [intOf]; omega
    · go_wp2_with fail
      go_ret
      obtain rfl : k = N := by omega
      refine RdOut.ret hfp.out (x := acc.map Im.er) (rest := r) (by rw [HS.out, Nat.sub_self, withP_zero]) (HI.out.done fun x _ => rfl) hRd.out
theorem rep_cl {base : Nat} {w : World} {a : Rf} {b : Bool} {s1 : Sl Rf} {s2 : Sl Ty} {s3 : Sl Int} {s4 : Sl Im} {e : List Rf} {f : List Ty} {v : List Int} {i : List Im} (h1 : RepL eRf 2 id base w s1.v e) (h2 : RepL eTy 3 id base w s2.v f) (h3 : RepL eInt 1 id base w s3.v v) (h4 : RepL eIm 3 Im.er base w s4.v i) (ha : i64ok a.p ∧ i64ok a.c) :
    RepCl base w (.agg #[.int .i64 a.p, .int .i64 a.c, .bool b, .slice s1.a s1.xs.length s1.c, .slice s2.a s2.xs.length s2.c, .slice s3.a s3.xs.length s3.c, .slice s4.a s4.xs.length s4.c]) ⟨a, b, .er e, .er f, .er v, .er i⟩ := by
  obtain ⟨t1, F1, a1, b1, c1, d1⟩ := h1
  obtain ⟨t2, F2, a2, b2, c2, d2⟩ := h2
  obtain ⟨t3, F3, a3, b3, c3, d3⟩ := h3
  obtain ⟨t4, F4, a4, b4, c4, d4⟩ := h4
  refine ⟨⟨a, b, t1, t2, t3, t4⟩, fun k => F1 k ∨ F2 k ∨ F3 k ∨ F4 k, ?_, ?_, ?_, fun w' hs hw => ⟨ha.1, ha.2, d1 w' hs fun k h => hw k (.inl h), d2 w' hs fun k h => hw k (.inr (.inl h)), d3 w' hs fun k h => hw k (.inr (.inr (.inl h))), d4 w' hs fun k h => hw k (.inr (.inr (.inr h)))⟩⟩
  · rw [show Value.slice s1.a s1.xs.length s1.c = t1.v from a1, show Value.slice s2.a s2.xs.length s2.c = t2.v from a2, show Value.slice s3.a s3.xs.length s3.c = t3.v from a3, show Value.slice s4.a s4.xs.length s4.c = t4.v from a4]
  · simp [Cl.er, ← b1, ← b2, ← b3, ← b4]
  · intro k hk
    rcases hk with h | h | h | h
    · exact c1 k h
    · exact c2 k h
    · exact c3 k h
    · exact c4 k h
set_option maxRecDepth 20000 in
set_option maxHeartbeats 4000000 in
theorem rclass_any (p : Nat) (w : World) (bs : List Int) (hR : Hid (Rd p w bs)) : Parses 101 Tryz.prog 137 #[.pointer (some ⟨p, 0, none⟩)] p w (clP bs) RepCl := by
  unfold Parses
  have hp := hR.out.1
  haveI : InW p w := ⟨hp⟩
  have hL1 : Hid (∀ (W : World) (cs : List Int), Rd p W cs → Parses 101 Tryz.prog 194 #[.pointer (some ⟨p, 0, none⟩), .func (.func 193) #[.pointer (some ⟨p, 0, none⟩)] #[]] p W (listP refP cs) (RepL eRf 2 id)) :=
    fun W cs h => rlist_rf p W cs refP h (fun _ _ _ _ h => h) (fun W cs h => rref_any p W cs h)
  have hL2 : Hid (∀ (W : World) (cs : List Int), Rd p W cs → Parses 101 Tryz.prog 140 #[.pointer (some ⟨p, 0, none⟩), .func (.func 141) #[.pointer (some ⟨p, 0, none⟩)] #[]] p W (listP typP cs) (RepL eTy 3 id)) :=
    fun W cs h => rlist_ty p W cs typP h (fun _ _ _ _ h => h) (fun W cs h => rtyp_any p W cs h)
  have hL3 : Hid (∀ (W : World) (cs : List Int), Rd p W cs → Parses 101 Tryz.prog 195 #[.pointer (some ⟨p, 0, none⟩), .func (.func 196) #[.pointer (some ⟨p, 0, none⟩)] #[]] p W (listP virtP cs) (RepL eInt 1 id)) :=
    fun W cs h => rlist_virt p W cs virtP h (fun _ _ _ _ h => virt_rep h) (fun W cs h => rvirt_any p W cs h)
  have hL4 : Hid (∀ (W : World) (cs : List Int), Rd p W cs → Parses 101 Tryz.prog 197 #[.pointer (some ⟨p, 0, none⟩), .func (.func 198) #[.pointer (some ⟨p, 0, none⟩)] #[]] p W (listP implP cs) (RepL eIm 3 Im.er)) :=
    fun W cs h => rlist_im p W cs implP h (fun _ _ _ _ h => h) (fun W cs h => rimpl_any p W cs h)
  go_enter Tryz.func137, Tryz.ntmps137
  go_wp2_with (first | (go_at_call 132; refine (rnum_any p _ bs (hid (by (with_reducible repeat' (first | exact Hid.out (by assumption) | refine Rd.alloc ?_ _ | refine Rd.ext _ ?_ | refine Rd.drew ?_ | refine Rd.setCell ?_ (by omega) _)); first | done | fail))).go (fun n r1 v y h1 hx hR => ?_) (fun c y hr => ⟨rfl, RdOut.err (by (with_reducible repeat' (first | exact Fp.refl | exact Hid.out (by assumption) | refine Fp.alloc ?_ _ | refine fp_ext _ ?_ | refine fp_px _ ?_ | refine Fp.drew ?_ | refine Fp.setCell ?_ (.inr (by omega)) _)); first | done | fail) (Rr.bind_err hr.out)⟩); obtain ⟨rfl, l1n, l2n⟩ := hx.out; clear hx; have hs := y.size; (try simp at hs)) | fail)
  · exact ⟨rfl, RdOut.err (by (with_reducible repeat' (first | exact Fp.refl | exact Hid.out (by assumption) | refine Fp.alloc ?_ _ | refine fp_ext _ ?_ | refine fp_px _ ?_ | refine Fp.drew ?_ | refine Fp.setCell ?_ (.inr (by omega)) _)); first | done | fail) ((Rr.bind_ok h1.out).trans (by rw [if_pos (by assumption)]; rfl))⟩
  · have hS : Hid (clP bs = (refP.bind fun s => (listP refP).bind fun e => (listP typP).bind fun f => (listP virtP).bind fun v => (listP implP).bind fun i => Rr.pure ⟨s, n == 1, .er e, .er f, .er v, .er i⟩) r1) := hid ((Rr.bind_ok h1.out).trans (by rw [if_neg (by omega)]))
    have hne1 : ¬ w.heap.size = y.val.heap.size := by omega
    have hne2 : ¬ y.val.heap.size = w.heap.size := by omega
    obtain ⟨q, hq⟩ : ∃ q : Bool, q = (n == 1) := ⟨_, rfl⟩
    rw [← hq] at hS ⊢
    clear hq
    go_wp2_with (first | (go_at_call 193; refine (rref_any p _ r1 (hid (by (with_reducible repeat' (first | exact Hid.out (by assumption) | refine Rd.alloc ?_ _ | refine Rd.ext _ ?_ | refine Rd.drew ?_ | refine Rd.setCell ?_ (by omega) _)); first | done | fail))).go (fun x r2 v y h2 hx hR => ?_) (fun c y hr => ⟨rfl, RdOut.err (by (with_reducible repeat' (first | exact Fp.refl | exact Hid.out (by assumption) | refine Fp.alloc ?_ _ | refine fp_ext _ ?_ | refine fp_px _ ?_ | refine Fp.drew ?_ | refine Fp.setCell ?_ (.inr (by omega)) _)); first | done | fail) (hS.out.trans (Rr.bind_err hr.out))⟩); obtain ⟨a, F, rfl, hq, hF, hok⟩ := hx.out; simp only [id] at hq; subst hq; have oka := hid (hok _ (Nat.le_refl _) fun _ _ => rfl); clear hx hok hF F; have hs := y.size; (try simp at hs)) | fail)
    have hS2 := hid (hS.out.trans (Rr.bind_ok h2.out))
    go_wp2_with (first | (go_at_call 194; refine ((hL1).out _ r2 (by (with_reducible repeat' (first | exact Hid.out (by assumption) | refine Rd.alloc ?_ _ | refine Rd.ext _ ?_ | refine Rd.drew ?_ | refine Rd.setCell ?_ (by omega) _)); first | done | fail)).go (fun xs1 r3 v y h3 hx3 hR => ?_) (fun c y hr => ⟨rfl, RdOut.err (by (with_reducible repeat' (first | exact Fp.refl | exact Hid.out (by assumption) | refine Fp.alloc ?_ _ | refine fp_ext _ ?_ | refine fp_px _ ?_ | refine Fp.drew ?_ | refine Fp.setCell ?_ (.inr (by omega)) _)); first | done | fail) (hS2.out.trans (Rr.bind_err hr.out))⟩); obtain ⟨s1, _, rfl, _⟩ := (hx3).out; have hs := y.size; (try simp at hs)) | fail)
    have hS3 := hid (hS2.out.trans (Rr.bind_ok h3.out))
    go_wp2_with (first | (go_at_call 140; refine ((hL2).out _ r3 (by (with_reducible repeat' (first | exact Hid.out (by assumption) | refine Rd.alloc ?_ _ | refine Rd.ext _ ?_ | refine Rd.drew ?_ | refine Rd.setCell ?_ (by omega) _)); first | done | fail)).go (fun xs2 r4 v y h4 hx4 hR => ?_) (fun c y hr => ⟨rfl, RdOut.err (by (with_reducible repeat' (first | exact Fp.refl | exact Hid.out (by assumption) | refine Fp.alloc ?_ _ | refine fp_ext _ ?_ | refine fp_px _ ?_ | refine Fp.drew ?_ | refine Fp.setCell ?_ (.inr (by omega)) _)); first | done | fail) (hS3.out.trans (Rr.bind_err hr.out))⟩); obtain ⟨s2, _, rfl, _⟩ := (hx4).out; have hs := y.size; (try simp at hs)) | fail)
    have hS4 := hid (hS3.out.trans (Rr.bind_ok h4.out))
    go_wp2_with (first | (go_at_call 195; refine ((hL3).out _ r4 (by (with_reducible repeat' (first | exact Hid.out (by assumption) | refine Rd.alloc ?_ _ | refine Rd.ext _ ?_ | refine Rd.drew ?_ | refine Rd.setCell ?_ (by omega) _)); first | done | fail)).go (fun xs3 r5 v y h5 hx5 hR => ?_) (fun c y hr => ⟨rfl, RdOut.err (by (with_reducible repeat' (first | exact Fp.refl | exact Hid.out (by assumption) | refine Fp.alloc ?_ _ | refine fp_ext _ ?_ | refine fp_px _ ?_ | refine Fp.drew ?_ | refine Fp.setCell ?_ (.inr (by omega)) _)); first | done | fail) (hS4.out.trans (Rr.bind_err hr.out))⟩); obtain ⟨s3, _, rfl, _⟩ := (hx5).out; have hs := y.size; (try simp at hs)) | fail)
    have hS5 := hid (hS4.out.trans (Rr.bind_ok h5.out))
    go_wp2_with (first | (go_at_call 197; refine ((hL4).out _ r5 (by (with_reducible repeat' (first | exact Hid.out (by assumption) | refine Rd.alloc ?_ _ | refine Rd.ext _ ?_ | refine Rd.drew ?_ | refine Rd.setCell ?_ (by omega) _)); first | done | fail)).go (fun xs4 r6 v y h6 hx6 hR => ?_) (fun c y hr => ⟨rfl, RdOut.err (by (with_reducible repeat' (first | exact Fp.refl | exact Hid.out (by assumption) | refine Fp.alloc ?_ _ | refine fp_ext _ ?_ | refine fp_px _ ?_ | refine Fp.drew ?_ | refine Fp.setCell ?_ (.inr (by omega)) _)); first | done | fail) (hS5.out.trans (Rr.bind_err hr.out))⟩); obtain ⟨s4, _, rfl, _⟩ := (hx6).out; have hs := y.size; (try simp at hs)) | fail)
    go_returns
    exact RdOut.ret (by (with_reducible repeat' (first | exact Fp.refl | exact Hid.out (by assumption) | refine Fp.alloc ?_ _ | refine fp_ext _ ?_ | refine fp_px _ ?_ | refine Fp.drew ?_ | refine Fp.setCell ?_ (.inr (by omega)) _)); first | done | fail) (hS5.out.trans (Rr.bind_ok h6.out)) (rep_cl (((hx3).out.keep (by (with_reducible repeat' (first | exact Kept.refl | refine Kept.set ?_ ?_ | refine Kept.px _ ?_ ?_ | refine Kept.alloc ?_ _ | refine Kept.ext _ ?_)); (all_goals (first | omega | (simp; done) | (simp; omega))))).from_ OM) (((hx4).out.keep (by (with_reducible repeat' (first | exact Kept.refl | refine Kept.set ?_ ?_ | refine Kept.px _ ?_ ?_ | refine Kept.alloc ?_ _ | refine Kept.ext _ ?_)); (all_goals (first | omega | (simp; done) | (simp; omega))))).from_ OM) (((hx5).out.keep (by (with_reducible repeat' (first | exact Kept.refl | refine Kept.set ?_ ?_ | refine Kept.px _ ?_ ?_ | refine Kept.alloc ?_ _ | refine Kept.ext _ ?_)); (all_goals (first | omega | (simp; done) | (simp; omega))))).from_ OM) (((hx6).out.keep (by (with_reducible repeat' (first | exact Kept.refl | refine Kept.set ?_ ?_ | refine Kept.px _ ?_ ?_ | refine Kept.alloc ?_ _ | refine Kept.ext _ ?_)); (all_goals (first | omega | (simp; done) | (simp; omega))))).from_ OM) oka.out) (by (with_reducible repeat' (first | exact Hid.out (by assumption) | refine Rd.alloc ?_ _ | refine Rd.ext _ ?_ | refine Rd.drew ?_ | refine Rd.setCell ?_ (by omega) _)); first | done | fail)
end Go.Proofs.YthagkijplklemaaGreatDoor
end
