/- The program's reader: handler. The program's reader: a method. The program's reader: the lists of a package. -/
import Derived.Test.YthagkijplklemaaGreatDoorS27
import Derived.LoopN
import Derived.Test.YthagkijplklemaaGreatDoorS33
import Derived.Test.YthagkijplklemaaGreatDoorS24
section
namespace Go.Proofs.YthagkijplklemaaGreatDoor
open Go.ChangeShapes Go.WideShapes Go.ChangeAt Go.RowKit Go.Sc
abbrev RepHd : Rp Hd := RepE eHd Hd.v id
theorem i64_word {n : Int} (h1 : 0 ≤ n) (h2 : n ≤ 65535) : i64ok n := ⟨by omega, by omega⟩
theorem rep_hd {base : Nat} {w : World} {a b c d : Int} (h1 : 0 ≤ a) (h2 : a ≤ 65535) (h3 : 0 ≤ b) (h4 : b ≤ 65535) (h5 : 0 ≤ c) (h6 : c ≤ 65535) (h7 : 0 ≤ d) (h8 : d ≤ 65535) : RepHd base w (.agg #[.int .i64 a, .int .i64 b, .int .i64 c, .int .i64 d]) ⟨a, b, c, d⟩ :=
  rep_plain (E := eHd) (val := Hd.v) (x := ⟨a, b, c, d⟩) fun _ => ⟨i64_word h1 h2, i64_word h3 h4, i64_word h5 h6, i64_word h7 h8⟩
set_option maxHeartbeats 1000000 in
theorem rhd_any (p : Nat) (w : World) (bs : List Int) (hR : Hid (Rd p w bs)) : Parses 101 Tryz.prog 202 #[.pointer (some ⟨p, 0, none⟩)] p w (hdP bs) RepHd := by
  unfold Parses
  have hp := hR.out.1
  haveI : InW p w := ⟨hp⟩
  go_enter Tryz.func202, Tryz.ntmps202
  go_wp2_with fail
  refine wp_loop_rounds 5 ?_
  rw [rounds_succ]
  go_wp2_with (first | (go_at_call 200; refine (rwide_any p _ bs (hid (by (with_reducible repeat' (first | exact Hid.out (by assumption) | refine Rd.alloc ?_ _ | refine Rd.ext _ ?_ | refine Rd.drew ?_ | refine Rd.setCell ?_ (by omega) _)); first | done | fail))).go (fun a r1 v y h1 hx hR => ?_) (fun c y hr => ⟨rfl, RdOut.err (by (with_reducible repeat' (first | exact Fp.refl | exact Hid.out (by assumption) | refine Fp.alloc ?_ _ | refine fp_ext _ ?_ | refine fp_px _ ?_ | refine Fp.drew ?_ | refine Fp.setCell ?_ (.inr (by omega)) _)); first | done | fail) (Rr.bind_err hr.out)⟩); obtain ⟨rfl, l1a, l2a⟩ := hx.out; clear hx; have hs := y.size; (try simp at hs)) | fail)
  rw [rounds_succ]
  go_wp2_with (first | (go_at_call 200; refine (rwide_any p _ r1 (hid (by (with_reducible repeat' (first | exact Hid.out (by assumption) | refine Rd.alloc ?_ _ | refine Rd.ext _ ?_ | refine Rd.drew ?_ | refine Rd.setCell ?_ (by omega) _)); first | done | fail))).go (fun b r2 v y h2 hx hR => ?_) (fun c y hr => ⟨rfl, RdOut.err (by (with_reducible repeat' (first | exact Fp.refl | exact Hid.out (by assumption) | refine Fp.alloc ?_ _ | refine fp_ext _ ?_ | refine fp_px _ ?_ | refine Fp.drew ?_ | refine Fp.setCell ?_ (.inr (by omega)) _)); first | done | fail) ((Rr.bind_ok h1.out).trans (Rr.bind_err hr.out))⟩); obtain ⟨rfl, l1b, l2b⟩ := hx.out; clear hx; have hs := y.size; (try simp at hs)) | fail)
  rw [rounds_succ]
  go_wp2_with (first | (go_at_call 200; refine (rwide_any p _ r2 (hid (by (with_reducible repeat' (first | exact Hid.out (by assumption) | refine Rd.alloc ?_ _ | refine Rd.ext _ ?_ | refine Rd.drew ?_ | refine Rd.setCell ?_ (by omega) _)); first | done | fail))).go (fun c r3 v y h3 hx hR => ?_) (fun c y hr => ⟨rfl, RdOut.err (by (with_reducible repeat' (first | exact Fp.refl | exact Hid.out (by assumption) | refine Fp.alloc ?_ _ | refine fp_ext _ ?_ | refine fp_px _ ?_ | refine Fp.drew ?_ | refine Fp.setCell ?_ (.inr (by omega)) _)); first | done | fail) ((Rr.bind_ok h1.out).trans ((Rr.bind_ok h2.out).trans (Rr.bind_err hr.out)))⟩); obtain ⟨rfl, l1c, l2c⟩ := hx.out; clear hx; have hs := y.size; (try simp at hs)) | fail)
  rw [rounds_succ]
  go_wp2_with (first | (go_at_call 200; refine (rwide_any p _ r3 (hid (by (with_reducible repeat' (first | exact Hid.out (by assumption) | refine Rd.alloc ?_ _ | refine Rd.ext _ ?_ | refine Rd.drew ?_ | refine Rd.setCell ?_ (by omega) _)); first | done | fail))).go (fun d r4 v y h4 hx hR => ?_) (fun c y hr => ⟨rfl, RdOut.err (by (with_reducible repeat' (first | exact Fp.refl | exact Hid.out (by assumption) | refine Fp.alloc ?_ _ | refine fp_ext _ ?_ | refine fp_px _ ?_ | refine Fp.drew ?_ | refine Fp.setCell ?_ (.inr (by omega)) _)); first | done | fail) ((Rr.bind_ok h1.out).trans ((Rr.bind_ok h2.out).trans ((Rr.bind_ok h3.out).trans (Rr.bind_err hr.out))))⟩); obtain ⟨rfl, l1d, l2d⟩ := hx.out; clear hx; have hs := y.size; (try simp at hs)) | fail)
  rw [rounds_succ]
  go_wp2_with fail
  go_returns
  exact RdOut.ret (by (with_reducible repeat' (first | exact Fp.refl | exact Hid.out (by assumption) | refine Fp.alloc ?_ _ | refine fp_ext _ ?_ | refine fp_px _ ?_ | refine Fp.drew ?_ | refine Fp.setCell ?_ (.inr (by omega)) _)); first | done | fail) ((Rr.bind_ok h1.out).trans ((Rr.bind_ok h2.out).trans ((Rr.bind_ok h3.out).trans (Rr.bind_ok h4.out)))) (rep_hd l1a l2a l1b l2b l1c l2c l1d l2d) (by (with_reducible repeat' (first | exact Hid.out (by assumption) | refine Rd.alloc ?_ _ | refine Rd.ext _ ?_ | refine Rd.drew ?_ | refine Rd.setCell ?_ (by omega) _)); first | done | fail)
end Go.Proofs.YthagkijplklemaaGreatDoor
end

section
namespace Go.Proofs.YthagkijplklemaaGreatDoor
open Go.ChangeShapes Go.WideShapes Go.ChangeAt Go.RowKit Go.Sc
def Me.er (x : Me) : Me := ⟨x.static, x.abs, x.cls, .er x.params.xs, x.result, x.locals, x.stack, .er x.code.xs, .er x.hs.xs⟩
abbrev RepMe : Rp Me := RepE eMe Me.v Me.er
theorem infHd : (Tryz.prog.info? 112).map (fun i => (i.zero, i.size, i.bytes)) = some (some (.agg #[.int .i64 0, .int .i64 0, .int .i64 0, .int .i64 0]), 4, 32) := by kernel_rfl
set_option maxRecDepth 20000 in
set_option maxHeartbeats 1000000 in
theorem rlist_hd (p : Nat) (w : World) (bs : List Int) (f : Rr Hd) (hR : Hid (Rd p w bs)) (hrep : ∀ base W v x, RepHd base W v x → RepE eHd Hd.v id base W v x)
    (hf : Hid (∀ (W : World) (cs : List Int), Rd p W cs → Parses 101 Tryz.prog 202 #[.pointer (some ⟨p, 0, none⟩)] p W (f cs) RepHd)) :
    Parses 101 Tryz.prog 201 #[.pointer (some ⟨p, 0, none⟩), .func (.func 202) #[.pointer (some ⟨p, 0, none⟩)] #[]] p w (listP f bs) (RepL eHd 4 id) := by
  unfold Parses
  have hp := hR.out.1
  haveI : InW p w := ⟨hp⟩
  haveI : LeW w.heap.size w := LeW.refl
  go_enter Tryz.func201, Tryz.ntmps201
  go_wp2_with (first | (go_at_call 132; refine (rnum_any p _ bs (hid (by (with_reducible repeat' (first | exact Hid.out (by assumption) | refine Rd.alloc ?_ _ | refine Rd.ext _ ?_ | refine Rd.drew ?_ | refine Rd.setCell ?_ (by omega) _)); first | done | fail))).go (fun n r1 v y h1 hx hR => ?_) (fun c y hr => ⟨rfl, RdOut.err (by (with_reducible repeat' (first | exact Fp.refl | exact Hid.out (by assumption) | refine Fp.alloc ?_ _ | refine fp_ext _ ?_ | refine fp_px _ ?_ | refine Fp.drew ?_ | refine Fp.setCell ?_ (.inr (by omega)) _)); first | done | fail) (Rr.bind_err hr.out)⟩); obtain ⟨rfl, l1n, l2n⟩ := hx.out; clear hx; have hs := y.size; (try simp at hs)) | fail)
  obtain ⟨N, rfl⟩ := Int.eq_ofNat_of_zero_le l1n
  have HS0 : Hid (listP f bs = withP (([] : List Hd).map id) (repP f (N - 0)) r1) := hid ((Rr.bind_ok h1.out).trans (by rw [List.map_nil, withP_nil]; simp))
  clear h1
  go_loopw [5, 8] (fun o i wr => ∃ (k : Nat) (acc : List Hd) (F : Nat → Prop) (r : List Int), k ≤ N ∧ acc.length = k ∧ i = .int .i64 k ∧ LInv eHd 4 112 p w o wr acc F r ∧ Hid (listP f bs = withP (acc.map id) (repP f (N - k)) r)) (fun _ i _ => N - (intOf i).toNat)
  case atStart => exact ⟨0, [], _, r1, Nat.zero_le _, rfl, rfl, LInv.start (by (with_reducible repeat' (first | exact Fp.refl | exact Hid.out (by assumption) | refine Fp.alloc ?_ _ | refine fp_ext _ ?_ | refine fp_px _ ?_ | refine Fp.drew ?_ | refine Fp.setCell ?_ (.inr (by omega)) _)); first | done | fail) hR.out, HS0⟩
  case round =>
    obtain ⟨k, acc, F, r, hk, hak, rfl, hI, HS⟩ := hrel
    have HI := hid hI
    have HA := hid hak
    have hfp := hid hI.fp
    have hRd := hid hI.rd
    have hwr := hI.fp.size
    haveI : LeW w.heap.size wr := ⟨hwr⟩
    clear hI hak
    by_cases hlt : k < N
    · obtain ⟨M, hM⟩ : ∃ M, N - k = M + 1 := ⟨N - k - 1, by omega⟩
      have HM := hid hM
      clear hM
      have hHS : Hid (listP f bs = withP (acc.map id) (repP f (M + 1)) r) := hid (by rw [← HM.out]; exact HS.out)
      have hal : acc.length ≤ 255 := by have := HA.out; omega
      go_wp2_with (first | (go_at_call 202; refine (hf.out _ r hRd.out).go (fun x r2 v y hx hrp hR2 => ?_) (fun c y hr => ⟨rfl, RdOut.err (by (with_reducible repeat' (first | exact Fp.refl | exact Hid.out (by assumption) | refine Fp.alloc ?_ _ | refine fp_ext _ ?_ | refine fp_px _ ?_ | refine Fp.drew ?_ | refine Fp.setCell ?_ (.inr (by omega)) _)); first | done | fail) (hHS.out.trans (withP_err hr.out))⟩); obtain ⟨c, G, rfl, hc, hG, hok⟩ := hrep _ _ _ _ hrp.out; have HC := hid hc; have HG := hid hG; have HOK := hid hok; clear hc hG hok hrp; have hon : Hid (y.val.ownsRow w.heap.size 112 4 u5 acc.length (acc.flatMap (El.cells eHd))) := hid (own_same HI.out.own fun b hb => y.fp.block b (HI.out.own.lt b hb).2 (by have := (HI.out.own.lt b hb).1; omega)); haveI : LeW w.heap.size y.val := ⟨Nat.le_trans hwr y.fp.size⟩) | (at_builtin; refine wpList_appL _ rfl _ _ 53 rfl w.heap.size 112 (.agg #[.int .i64 0, .int .i64 0, .int .i64 0, .int .i64 0]) 4 32 Tryz.underlying53 infHd rfl (by decide) u5 acc.length (acc.flatMap (El.cells eHd)) rfl hon #[.int .i64 c.f, .int .i64 c.t, .int .i64 c.g, .int .i64 c.w] _ 1 1 rfl rfl (by intro q hq; simp at hq; (repeat' (rcases hq with rfl | hq)); all_goals (first | rfl | (subst hq; rfl))) (by unfold maxLen; omega) (by omega) LeW.le ?_; intro v' w1 ho' hg hat) | fail)
      go_roundw
      case rel =>
        refine ⟨k + 1, acc ++ [c], _, r2, by omega, by have := HA.out; simp; omega, by go_num, HI.out.step hp y HG.out HOK.out hR2.out (own_eq ho'.out (by simp) (by simp [eHd])) hg.out hat.out, hid ?_⟩
        rw [hHS.out, withP_ok hx.out, List.map_append, show N - (k + 1) = M from by have := HM.out; omega, List.map_cons, List.map_nil, HC.out]
      case measure => simp [intOf]; omega
    · go_wp2_with fail
      go_ret
      obtain rfl : k = N := by omega
      refine RdOut.ret hfp.out (x := acc.map id) (rest := r) (by rw [HS.out, Nat.sub_self, withP_zero]) (HI.out.done fun x _ => rfl) hRd.out
theorem rep_me {base : Nat} {w : World} {b1 b2 : Bool} {a l s : Int} {t : Ty} {s1 : Sl Ty} {s2 : Sl In} {s3 : Sl Hd} {e : List Ty} {f : List In} {v : List Hd} (h1 : RepL eTy 3 id base w s1.v e) (h2 : RepL eIn 4 id base w s2.v f) (h3 : RepL eHd 4 id base w s3.v v) (ht : t.Ok) (ha : i64ok a) (hl : i64ok l) (hs : i64ok s) :
    RepMe base w (.agg #[.bool b1, .bool b2, .int .i64 a, .slice s1.a s1.xs.length s1.c, .int .i64 t.k, .int .i64 t.c.p, .int .i64 t.c.c, .int .i64 l, .int .i64 s, .slice s2.a s2.xs.length s2.c, .slice s3.a s3.xs.length s3.c]) ⟨b1, b2, a, .er e, t, l, s, .er f, .er v⟩ := by
  obtain ⟨t1, F1, a1, q1, c1, d1⟩ := h1
  obtain ⟨t2, F2, a2, q2, c2, d2⟩ := h2
  obtain ⟨t3, F3, a3, q3, c3, d3⟩ := h3
  refine ⟨⟨b1, b2, a, t1, t, l, s, t2, t3⟩, fun k => F1 k ∨ F2 k ∨ F3 k, ?_, ?_, ?_, fun w' hs' hw => ⟨ha, d1 w' hs' fun k h => hw k (.inl h), ht, hl, hs, d2 w' hs' fun k h => hw k (.inr (.inl h)), d3 w' hs' fun k h => hw k (.inr (.inr h))⟩⟩
  · rw [show Value.slice s1.a s1.xs.length s1.c = t1.v from a1, show Value.slice s2.a s2.xs.length s2.c = t2.v from a2, show Value.slice s3.a s3.xs.length s3.c = t3.v from a3]
  · simp [Me.er, ← q1, ← q2, ← q3]
  · intro k hk
    rcases hk with h | h | h
    · exact c1 k h
    · exact c2 k h
    · exact c3 k h
set_option maxRecDepth 20000 in
set_option maxHeartbeats 4000000 in
theorem rmethod_any (p : Nat) (w : World) (bs : List Int) (hR : Hid (Rd p w bs)) : Parses 101 Tryz.prog 139 #[.pointer (some ⟨p, 0, none⟩)] p w (meP bs) RepMe := by
  unfold Parses
  have hp := hR.out.1
  haveI : InW p w := ⟨hp⟩
  have hL1 : Hid (∀ (W : World) (cs : List Int), Rd p W cs → Parses 101 Tryz.prog 140 #[.pointer (some ⟨p, 0, none⟩), .func (.func 141) #[.pointer (some ⟨p, 0, none⟩)] #[]] p W (listP typP cs) (RepL eTy 3 id)) :=
    fun W cs h => rlist_ty p W cs typP h (fun _ _ _ _ h => h) (fun W cs h => rtyp_any p W cs h)
  have hL2 : Hid (∀ (W : World) (cs : List Int), Rd p W cs → Parses 101 Tryz.prog 201 #[.pointer (some ⟨p, 0, none⟩), .func (.func 202) #[.pointer (some ⟨p, 0, none⟩)] #[]] p W (listP hdP cs) (RepL eHd 4 id)) :=
    fun W cs h => rlist_hd p W cs hdP h (fun _ _ _ _ h => h) (fun W cs h => rhd_any p W cs h)
  go_enter Tryz.func139, Tryz.ntmps139
  go_wp2_with (first | (go_at_call 132; refine (rnum_any p _ bs (hid (by (with_reducible repeat' (first | exact Hid.out (by assumption) | refine Rd.alloc ?_ _ | refine Rd.ext _ ?_ | refine Rd.drew ?_ | refine Rd.setCell ?_ (by omega) _)); first | done | fail))).go (fun n r1 v y h1 hx hR => ?_) (fun c y hr => ⟨rfl, RdOut.err (by (with_reducible repeat' (first | exact Fp.refl | exact Hid.out (by assumption) | refine Fp.alloc ?_ _ | refine fp_ext _ ?_ | refine fp_px _ ?_ | refine Fp.drew ?_ | refine Fp.setCell ?_ (.inr (by omega)) _)); first | done | fail) (Rr.bind_err hr.out)⟩); obtain ⟨rfl, l1n, l2n⟩ := hx.out; clear hx; have hs := y.size; (try simp at hs)) | fail)
  · exact ⟨rfl, RdOut.err (by (with_reducible repeat' (first | exact Fp.refl | exact Hid.out (by assumption) | refine Fp.alloc ?_ _ | refine fp_ext _ ?_ | refine fp_px _ ?_ | refine Fp.drew ?_ | refine Fp.setCell ?_ (.inr (by omega)) _)); first | done | fail) ((Rr.bind_ok h1.out).trans (by rw [if_pos (by assumption)]; rfl))⟩
  · have hn3 : n ≤ 3 := by omega
    have hne1 : ¬ w.heap.size = y.val.heap.size := by omega
    have hne2 : ¬ y.val.heap.size = w.heap.size := by omega
    obtain ⟨q1, hq1⟩ : ∃ q : Bool, q = (bits BinOp.and .i64 n 1 != 0) := ⟨_, rfl⟩
    obtain ⟨q2, hq2⟩ : ∃ q : Bool, q = (bits BinOp.and .i64 n 2 != 0) := ⟨_, rfl⟩
    have hS : Hid (meP bs = (numP.bind fun c => (listP typP).bind fun ps => typP.bind fun t => numP.bind fun l => numP.bind fun s => codeP.bind fun k => (listP hdP).bind fun h => Rr.pure ⟨q1, q2, c, .er ps, t, l, s, .er k, .er h⟩) r1) := by
      have e1 : (n % 2 == 1) = q1 := by
        have : n = 0 ∨ n = 1 ∨ n = 2 ∨ n = 3 := by omega
        rw [hq1]; rcases this with rfl | rfl | rfl | rfl <;> rfl
      have e2 : decide (2 ≤ n) = q2 := by
        have : n = 0 ∨ n = 1 ∨ n = 2 ∨ n = 3 := by omega
        rw [hq2]; rcases this with rfl | rfl | rfl | rfl <;> rfl
      exact (Rr.bind_ok h1.out).trans (by rw [if_neg (by omega), e1, e2])
    rw [← hq1, ← hq2]
    clear hq1 hq2 hn3
    go_wp2_with (first | (go_at_call 132; refine (rnum_any p _ r1 (hid (by (with_reducible repeat' (first | exact Hid.out (by assumption) | refine Rd.alloc ?_ _ | refine Rd.ext _ ?_ | refine Rd.drew ?_ | refine Rd.setCell ?_ (by omega) _)); first | done | fail))).go (fun c r2 v y h2 hx hR => ?_) (fun c y hr => ⟨rfl, RdOut.err (by (with_reducible repeat' (first | exact Fp.refl | exact Hid.out (by assumption) | refine Fp.alloc ?_ _ | refine fp_ext _ ?_ | refine fp_px _ ?_ | refine Fp.drew ?_ | refine Fp.setCell ?_ (.inr (by omega)) _)); first | done | fail) (hS.out.trans (Rr.bind_err hr.out))⟩); obtain ⟨rfl, l1c, l2c⟩ := hx.out; clear hx; have hs := y.size; (try simp at hs)) | fail)
    have hS2 := hid (hS.out.trans (Rr.bind_ok h2.out))
    go_wp2_with (first | (go_at_call 140; refine ((hL1).out _ r2 (by (with_reducible repeat' (first | exact Hid.out (by assumption) | refine Rd.alloc ?_ _ | refine Rd.ext _ ?_ | refine Rd.drew ?_ | refine Rd.setCell ?_ (by omega) _)); first | done | fail)).go (fun xs1 r3 v y h3 hx3 hR => ?_) (fun c y hr => ⟨rfl, RdOut.err (by (with_reducible repeat' (first | exact Fp.refl | exact Hid.out (by assumption) | refine Fp.alloc ?_ _ | refine fp_ext _ ?_ | refine fp_px _ ?_ | refine Fp.drew ?_ | refine Fp.setCell ?_ (.inr (by omega)) _)); first | done | fail) (hS2.out.trans (Rr.bind_err hr.out))⟩); obtain ⟨s1, _, rfl, _⟩ := (hx3).out; have hs := y.size; (try simp at hs)) | fail)
    have hS3 := hid (hS2.out.trans (Rr.bind_ok h3.out))
    go_wp2_with (first | (go_at_call 141; refine (rtyp_any p _ r3 (hid (by (with_reducible repeat' (first | exact Hid.out (by assumption) | refine Rd.alloc ?_ _ | refine Rd.ext _ ?_ | refine Rd.drew ?_ | refine Rd.setCell ?_ (by omega) _)); first | done | fail))).go (fun x r4 v y h4 hx hR => ?_) (fun c y hr => ⟨rfl, RdOut.err (by (with_reducible repeat' (first | exact Fp.refl | exact Hid.out (by assumption) | refine Fp.alloc ?_ _ | refine fp_ext _ ?_ | refine fp_px _ ?_ | refine Fp.drew ?_ | refine Fp.setCell ?_ (.inr (by omega)) _)); first | done | fail) (hS3.out.trans (Rr.bind_err hr.out))⟩); obtain ⟨t, F, rfl, hq, hF, hok⟩ := hx.out; simp only [id] at hq; subst hq; have okt := hid (hok _ (Nat.le_refl _) fun _ _ => rfl); clear hx hok hF F; have hs := y.size; (try simp at hs)) | fail)
    have hS4 := hid (hS3.out.trans (Rr.bind_ok h4.out))
    go_wp2_with (first | (go_at_call 132; refine (rnum_any p _ r4 (hid (by (with_reducible repeat' (first | exact Hid.out (by assumption) | refine Rd.alloc ?_ _ | refine Rd.ext _ ?_ | refine Rd.drew ?_ | refine Rd.setCell ?_ (by omega) _)); first | done | fail))).go (fun l r5 v y h5 hx hR => ?_) (fun c y hr => ⟨rfl, RdOut.err (by (with_reducible repeat' (first | exact Fp.refl | exact Hid.out (by assumption) | refine Fp.alloc ?_ _ | refine fp_ext _ ?_ | refine fp_px _ ?_ | refine Fp.drew ?_ | refine Fp.setCell ?_ (.inr (by omega)) _)); first | done | fail) (hS4.out.trans (Rr.bind_err hr.out))⟩); obtain ⟨rfl, l1l, l2l⟩ := hx.out; clear hx; have hs := y.size; (try simp at hs)) | fail)
    have hS5 := hid (hS4.out.trans (Rr.bind_ok h5.out))
    go_wp2_with (first | (go_at_call 132; refine (rnum_any p _ r5 (hid (by (with_reducible repeat' (first | exact Hid.out (by assumption) | refine Rd.alloc ?_ _ | refine Rd.ext _ ?_ | refine Rd.drew ?_ | refine Rd.setCell ?_ (by omega) _)); first | done | fail))).go (fun s r6 v y h6 hx hR => ?_) (fun c y hr => ⟨rfl, RdOut.err (by (with_reducible repeat' (first | exact Fp.refl | exact Hid.out (by assumption) | refine Fp.alloc ?_ _ | refine fp_ext _ ?_ | refine fp_px _ ?_ | refine Fp.drew ?_ | refine Fp.setCell ?_ (.inr (by omega)) _)); first | done | fail) (hS5.out.trans (Rr.bind_err hr.out))⟩); obtain ⟨rfl, l1s, l2s⟩ := hx.out; clear hx; have hs := y.size; (try simp at hs)) | fail)
    have hS6 := hid (hS5.out.trans (Rr.bind_ok h6.out))
    go_wp2_with (first | (go_at_call 200; refine (rwide_any p _ r6 (hid (by (with_reducible repeat' (first | exact Hid.out (by assumption) | refine Rd.alloc ?_ _ | refine Rd.ext _ ?_ | refine Rd.drew ?_ | refine Rd.setCell ?_ (by omega) _)); first | done | fail))).go (fun m r7 v y h7 hx hR => ?_) (fun c y hr => ⟨rfl, RdOut.err (by (with_reducible repeat' (first | exact Fp.refl | exact Hid.out (by assumption) | refine Fp.alloc ?_ _ | refine fp_ext _ ?_ | refine fp_px _ ?_ | refine Fp.drew ?_ | refine Fp.setCell ?_ (.inr (by omega)) _)); first | done | fail) (hS6.out.trans (Rr.bind_err (Rr.bind_err hr.out)))⟩); obtain ⟨rfl, l1m, l2m⟩ := hx.out; clear hx; have hs := y.size; (try simp at hs)) | fail)
    obtain ⟨N, rfl⟩ := Int.eq_ofNat_of_zero_le l1m
    go_wp2_with (first | (go_at_call 192; refine (rbytes_any p N _ r7 (hid (by (with_reducible repeat' (first | exact Hid.out (by assumption) | refine Rd.alloc ?_ _ | refine Rd.ext _ ?_ | refine Rd.drew ?_ | refine Rd.setCell ?_ (by omega) _)); first | done | fail))).go (fun x r8 v y h8 hx hR => ?_) (fun c y hr => ⟨rfl, RdOut.err (by (with_reducible repeat' (first | exact Fp.refl | exact Hid.out (by assumption) | refine Fp.alloc ?_ _ | refine fp_ext _ ?_ | refine fp_px _ ?_ | refine Fp.drew ?_ | refine Fp.setCell ?_ (.inr (by omega)) _)); first | done | fail) (hS6.out.trans (Rr.bind_err ((Rr.bind_ok h7.out).trans (Rr.bind_err hr.out))))⟩); obtain ⟨a, ca, rfl, hb, _⟩ := hx.out; have hB := hid hb; clear hx hb; have hs := y.size; (try simp at hs)) | fail)
    cases hd : decP (x.length + 1) 0 x with
    | error e =>
      have hC : Hid (codeP r6 = .error e) := hid ((Rr.bind_ok h7.out).trans ((Rr.bind_ok h8.out).trans (by simp only [hd])))
      have hD : Hid (∀ W : World, Bytes W ⟨a, ca, x⟩ → Calls Tryz.prog 199 #[.slice a x.length ca] W fun e' w' => ∃ y : Ext W, w' = y.val ∧ e' = .returned (.tuple #[.slice none 0 0, .int .i64 e]) ∧ Hid (e ≠ 0)) := fun W hW =>
        (decode_any ⟨a, ca, x⟩ W hW).mono fun e' w' ⟨q1, _, q3⟩ => ⟨⟨w', q1⟩, rfl, (q3 e hd).2, (q3 e hd).1⟩
      clear hd
      go_wp2_with (first | (go_at_call 199; refine (hD.out _ hB.out).mono ?_; rintro e' w' ⟨z, rfl, rfl, hez⟩; have hez' := hez.out; have hez2 : (e != 0) = true := (by simp [hez']); clear hez') | fail)
      exact ⟨rfl, RdOut.err (by (with_reducible repeat' (first | exact Fp.refl | exact Hid.out (by assumption) | refine Fp.alloc ?_ _ | refine fp_ext _ ?_ | refine fp_px _ ?_ | refine Fp.drew ?_ | refine Fp.setCell ?_ (.inr (by omega)) _)); first | done | fail) (hS6.out.trans (Rr.bind_err hC.out))⟩
    | ok k =>
      have hC : Hid (codeP r6 = .ok (k, r8)) := hid ((Rr.bind_ok h7.out).trans ((Rr.bind_ok h8.out).trans (by simp only [hd])))
      have hD : Hid (∀ W : World, Bytes W ⟨a, ca, x⟩ → Calls Tryz.prog 199 #[.slice a x.length ca] W fun e' w' => ∃ (s2 : Sl In) (y : Ext W), w' = y.val ∧ e' = .returned (.tuple #[.slice s2.a s2.xs.length s2.c, .int .i64 0]) ∧ Hid (RepL eIn 4 id W.heap.size y.val s2.v k)) := fun W hW =>
        (decode_any ⟨a, ca, x⟩ W hW).mono fun e' w' ⟨q1, q2, _⟩ => by
          obtain ⟨a2, c2, he, hr, _⟩ := q2 k hd
          exact ⟨⟨a2, c2, k⟩, ⟨w', q1⟩, rfl, he, hr⟩
      have hS7 := hid (hS6.out.trans (Rr.bind_ok hC.out))
      clear hd
      go_wp2_with (first | (go_at_call 199; refine (hD.out _ hB.out).mono ?_; rintro e' w' ⟨s2, y, rfl, rfl, hx9⟩; have hs := y.size; (try simp at hs)) | fail)
      go_wp2_with (first | (go_at_call 201; refine ((hL2).out _ r8 (by (with_reducible repeat' (first | exact Hid.out (by assumption) | refine Rd.alloc ?_ _ | refine Rd.ext _ ?_ | refine Rd.drew ?_ | refine Rd.setCell ?_ (by omega) _)); first | done | fail)).go (fun xs3 r9 v y h9 hx10 hR => ?_) (fun c y hr => ⟨rfl, RdOut.err (by (with_reducible repeat' (first | exact Fp.refl | exact Hid.out (by assumption) | refine Fp.alloc ?_ _ | refine fp_ext _ ?_ | refine fp_px _ ?_ | refine Fp.drew ?_ | refine Fp.setCell ?_ (.inr (by omega)) _)); first | done | fail) (hS7.out.trans (Rr.bind_err hr.out))⟩); obtain ⟨s3, _, rfl, _⟩ := (hx10).out; have hs := y.size; (try simp at hs)) | fail)
      go_returns
      exact RdOut.ret (by (with_reducible repeat' (first | exact Fp.refl | exact Hid.out (by assumption) | refine Fp.alloc ?_ _ | refine fp_ext _ ?_ | refine fp_px _ ?_ | refine Fp.drew ?_ | refine Fp.setCell ?_ (.inr (by omega)) _)); first | done | fail) (hS7.out.trans (Rr.bind_ok h9.out)) (rep_me (((hx3).out.keep (by (with_reducible repeat' (first | exact Kept.refl | refine Kept.set ?_ ?_ | refine Kept.px _ ?_ ?_ | refine Kept.alloc ?_ _ | refine Kept.ext _ ?_)); (all_goals (first | omega | (simp; done) | (simp; omega))))).from_ OM) (((hx9).out.keep (by (with_reducible repeat' (first | exact Kept.refl | refine Kept.set ?_ ?_ | refine Kept.px _ ?_ ?_ | refine Kept.alloc ?_ _ | refine Kept.ext _ ?_)); (all_goals (first | omega | (simp; done) | (simp; omega))))).from_ OM) (((hx10).out.keep (by (with_reducible repeat' (first | exact Kept.refl | refine Kept.set ?_ ?_ | refine Kept.px _ ?_ ?_ | refine Kept.alloc ?_ _ | refine Kept.ext _ ?_)); (all_goals (first | omega | (simp; done) | (simp; omega))))).from_ OM) okt.out (i64_byte l1c l2c) (i64_byte l1l l2l) (i64_byte l1s l2s)) (by (with_reducible repeat' (first | exact Hid.out (by assumption) | refine Rd.alloc ?_ _ | refine Rd.ext _ ?_ | refine Rd.drew ?_ | refine Rd.setCell ?_ (by omega) _)); first | done | fail)
end Go.Proofs.YthagkijplklemaaGreatDoor
end

section
namespace Go.Proofs.YthagkijplklemaaGreatDoor
open Go.ChangeShapes Go.WideShapes Go.ChangeAt Go.RowKit Go.Sc
theorem infIp : (Tryz.prog.info? 61).map (fun i => (i.zero, i.size, i.bytes)) = some (some (.agg #[.slice none 0 0, .int .i64 0, .int .i64 0]), 3, 40) := by kernel_rfl
set_option maxRecDepth 20000 in
set_option maxHeartbeats 1000000 in
theorem rlist_ip (p : Nat) (w : World) (bs : List Int) (f : Rr Ip) (hR : Hid (Rd p w bs)) (hrep : ∀ base W v x, RepIp base W v x → RepE eIp Ip.v Ip.er base W v x)
    (hf : Hid (∀ (W : World) (cs : List Int), Rd p W cs → Parses 101 Tryz.prog 135 #[.pointer (some ⟨p, 0, none⟩)] p W (f cs) RepIp)) :
    Parses 101 Tryz.prog 134 #[.pointer (some ⟨p, 0, none⟩), .func (.func 135) #[.pointer (some ⟨p, 0, none⟩)] #[]] p w (listP f bs) (RepL eIp 3 Ip.er) := by
  unfold Parses
  have hp := hR.out.1
  haveI : InW p w := ⟨hp⟩
  haveI : LeW w.heap.size w := LeW.refl
  go_enter Tryz.func134, Tryz.ntmps134
  go_wp2_with (first | (go_at_call 132; refine (rnum_any p _ bs (hid (by (with_reducible repeat' (first | exact Hid.out (by assumption) | refine Rd.alloc ?_ _ | refine Rd.ext _ ?_ | refine Rd.drew ?_ | refine Rd.setCell ?_ (by omega) _)); first | done | fail))).go (fun n r1 v y h1 hx hR => ?_) (fun c y hr => ⟨rfl, RdOut.err (by (with_reducible repeat' (first | exact Fp.refl | exact Hid.out (by assumption) | refine Fp.alloc ?_ _ | refine fp_ext _ ?_ | refine fp_px _ ?_ | refine Fp.drew ?_ | refine Fp.setCell ?_ (.inr (by omega)) _)); first | done | fail) (Rr.bind_err hr.out)⟩); obtain ⟨rfl, l1n, l2n⟩ := hx.out; clear hx; have hs := y.size; (try simp at hs)) | fail)
  obtain ⟨N, rfl⟩ := Int.eq_ofNat_of_zero_le l1n
  have HS0 : Hid (listP f bs = withP (([] : List Ip).map Ip.er) (repP f (N - 0)) r1) := hid ((Rr.bind_ok h1.out).trans (by rw [List.map_nil, withP_nil]; simp))
  clear h1
  go_loopw [5, 8] (fun o i wr => ∃ (k : Nat) (acc : List Ip) (F : Nat → Prop) (r : List Int), k ≤ N ∧ acc.length = k ∧ i = .int .i64 k ∧ LInv eIp 3 61 p w o wr acc F r ∧ Hid (listP f bs = withP (acc.map Ip.er) (repP f (N - k)) r)) (fun _ i _ => N - (intOf i).toNat)
  case atStart => exact ⟨0, [], _, r1, Nat.zero_le _, rfl, rfl, LInv.start (by (with_reducible repeat' (first | exact Fp.refl | exact Hid.out (by assumption) | refine Fp.alloc ?_ _ | refine fp_ext _ ?_ | refine fp_px _ ?_ | refine Fp.drew ?_ | refine Fp.setCell ?_ (.inr (by omega)) _)); first | done | fail) hR.out, HS0⟩
  case round =>
    obtain ⟨k, acc, F, r, hk, hak, rfl, hI, HS⟩ := hrel
    have HI := hid hI
    have HA := hid hak
    have hfp := hid hI.fp
    have hRd := hid hI.rd
    have hwr := hI.fp.size
    haveI : LeW w.heap.size wr := ⟨hwr⟩
    clear hI hak
    by_cases hlt : k < N
    · obtain ⟨M, hM⟩ : ∃ M, N - k = M + 1 := ⟨N - k - 1, by omega⟩
      have HM := hid hM
      clear hM
      have hHS : Hid (listP f bs = withP (acc.map Ip.er) (repP f (M + 1)) r) := hid (by rw [← HM.out]; exact HS.out)
      have hal : acc.length ≤ 255 := by have := HA.out; omega
      go_wp2_with (first | (go_at_call 135; refine (hf.out _ r hRd.out).go (fun x r2 v y hx hrp hR2 => ?_) (fun c y hr => ⟨rfl, RdOut.err (by (with_reducible repeat' (first | exact Fp.refl | exact Hid.out (by assumption) | refine Fp.alloc ?_ _ | refine fp_ext _ ?_ | refine fp_px _ ?_ | refine Fp.drew ?_ | refine Fp.setCell ?_ (.inr (by omega)) _)); first | done | fail) (hHS.out.trans (withP_err hr.out))⟩); obtain ⟨c, G, rfl, hc, hG, hok⟩ := hrep _ _ _ _ hrp.out; have HC := hid hc; have HG := hid hG; have HOK := hid hok; clear hc hG hok hrp; have hon : Hid (y.val.ownsRow w.heap.size 61 3 u5 acc.length (acc.flatMap (El.cells eIp))) := hid (own_same HI.out.own fun b hb => y.fp.block b (HI.out.own.lt b hb).2 (by have := (HI.out.own.lt b hb).1; omega)); haveI : LeW w.heap.size y.val := ⟨Nat.le_trans hwr y.fp.size⟩) | (at_builtin; refine wpList_appL _ rfl _ _ 23 rfl w.heap.size 61 (.agg #[.slice none 0 0, .int .i64 0, .int .i64 0]) 3 40 Tryz.underlying23 infIp rfl (by decide) u5 acc.length (acc.flatMap (El.cells eIp)) rfl hon #[.slice c.aid.a c.aid.xs.length c.aid.c, .int .i64 c.major, .int .i64 c.minor] _ 1 1 rfl rfl (by intro q hq; simp at hq; (repeat' (rcases hq with rfl | hq)); all_goals (first | rfl | (subst hq; rfl))) (by unfold maxLen; omega) (by omega) LeW.le ?_; intro v' w1 ho' hg hat) | fail)
      go_roundw
      case rel =>
        refine ⟨k + 1, acc ++ [c], _, r2, by omega, by have := HA.out; simp; omega, by go_num, HI.out.step hp y HG.out HOK.out hR2.out (own_eq ho'.out (by simp) (by simp [eIp])) hg.out hat.out, hid ?_⟩
        rw [hHS.out, withP_ok hx.out, List.map_append, show N - (k + 1) = M from by have := HM.out; omega, List.map_cons, List.map_nil, HC.out]
      case measure => simp [intOf]; omega
    · go_wp2_with fail
      go_ret
      obtain rfl : k = N := by omega
      refine RdOut.ret hfp.out (x := acc.map Ip.er) (rest := r) (by rw [HS.out, Nat.sub_self, withP_zero]) (HI.out.done fun x _ => rfl) hRd.out
theorem infAp : (Tryz.prog.info? 63).map (fun i => (i.zero, i.size, i.bytes)) = some (some (.agg #[.slice none 0 0, .int .i64 0, .int .i64 0]), 3, 40) := by kernel_rfl
set_option maxRecDepth 20000 in
set_option maxHeartbeats 1000000 in
theorem rlist_ap (p : Nat) (w : World) (bs : List Int) (f : Rr Ap) (hR : Hid (Rd p w bs)) (hrep : ∀ base W v x, RepAp base W v x → RepE eAp Ap.v Ap.er base W v x)
    (hf : Hid (∀ (W : World) (cs : List Int), Rd p W cs → Parses 101 Tryz.prog 143 #[.pointer (some ⟨p, 0, none⟩)] p W (f cs) RepAp)) :
    Parses 101 Tryz.prog 142 #[.pointer (some ⟨p, 0, none⟩), .func (.func 143) #[.pointer (some ⟨p, 0, none⟩)] #[]] p w (listP f bs) (RepL eAp 3 Ap.er) := by
  unfold Parses
  have hp := hR.out.1
  haveI : InW p w := ⟨hp⟩
  haveI : LeW w.heap.size w := LeW.refl
  go_enter Tryz.func142, Tryz.ntmps142
  go_wp2_with (first | (go_at_call 132; refine (rnum_any p _ bs (hid (by (with_reducible repeat' (first | exact Hid.out (by assumption) | refine Rd.alloc ?_ _ | refine Rd.ext _ ?_ | refine Rd.drew ?_ | refine Rd.setCell ?_ (by omega) _)); first | done | fail))).go (fun n r1 v y h1 hx hR => ?_) (fun c y hr => ⟨rfl, RdOut.err (by (with_reducible repeat' (first | exact Fp.refl | exact Hid.out (by assumption) | refine Fp.alloc ?_ _ | refine fp_ext _ ?_ | refine fp_px _ ?_ | refine Fp.drew ?_ | refine Fp.setCell ?_ (.inr (by omega)) _)); first | done | fail) (Rr.bind_err hr.out)⟩); obtain ⟨rfl, l1n, l2n⟩ := hx.out; clear hx; have hs := y.size; (try simp at hs)) | fail)
  obtain ⟨N, rfl⟩ := Int.eq_ofNat_of_zero_le l1n
  have HS0 : Hid (listP f bs = withP (([] : List Ap).map Ap.er) (repP f (N - 0)) r1) := hid ((Rr.bind_ok h1.out).trans (by rw [List.map_nil, withP_nil]; simp))
  clear h1
  go_loopw [5, 8] (fun o i wr => ∃ (k : Nat) (acc : List Ap) (F : Nat → Prop) (r : List Int), k ≤ N ∧ acc.length = k ∧ i = .int .i64 k ∧ LInv eAp 3 63 p w o wr acc F r ∧ Hid (listP f bs = withP (acc.map Ap.er) (repP f (N - k)) r)) (fun _ i _ => N - (intOf i).toNat)
  case atStart => exact ⟨0, [], _, r1, Nat.zero_le _, rfl, rfl, LInv.start (by (with_reducible repeat' (first | exact Fp.refl | exact Hid.out (by assumption) | refine Fp.alloc ?_ _ | refine fp_ext _ ?_ | refine fp_px _ ?_ | refine Fp.drew ?_ | refine Fp.setCell ?_ (.inr (by omega)) _)); first | done | fail) hR.out, HS0⟩
  case round =>
    obtain ⟨k, acc, F, r, hk, hak, rfl, hI, HS⟩ := hrel
    have HI := hid hI
    have HA := hid hak
    have hfp := hid hI.fp
    have hRd := hid hI.rd
    have hwr := hI.fp.size
    haveI : LeW w.heap.size wr := ⟨hwr⟩
    clear hI hak
    by_cases hlt : k < N
    · obtain ⟨M, hM⟩ : ∃ M, N - k = M + 1 := ⟨N - k - 1, by omega⟩
      have HM := hid hM
      clear hM
      have hHS : Hid (listP f bs = withP (acc.map Ap.er) (repP f (M + 1)) r) := hid (by rw [← HM.out]; exact HS.out)
      have hal : acc.length ≤ 255 := by have := HA.out; omega
      go_wp2_with (first | (go_at_call 143; refine (hf.out _ r hRd.out).go (fun x r2 v y hx hrp hR2 => ?_) (fun c y hr => ⟨rfl, RdOut.err (by (with_reducible repeat' (first | exact Fp.refl | exact Hid.out (by assumption) | refine Fp.alloc ?_ _ | refine fp_ext _ ?_ | refine fp_px _ ?_ | refine Fp.drew ?_ | refine Fp.setCell ?_ (.inr (by omega)) _)); first | done | fail) (hHS.out.trans (withP_err hr.out))⟩); obtain ⟨c, G, rfl, hc, hG, hok⟩ := hrep _ _ _ _ hrp.out; have HC := hid hc; have HG := hid hG; have HOK := hid hok; clear hc hG hok hrp; have hon : Hid (y.val.ownsRow w.heap.size 63 3 u5 acc.length (acc.flatMap (El.cells eAp))) := hid (own_same HI.out.own fun b hb => y.fp.block b (HI.out.own.lt b hb).2 (by have := (HI.out.own.lt b hb).1; omega)); haveI : LeW w.heap.size y.val := ⟨Nat.le_trans hwr y.fp.size⟩) | (at_builtin; refine wpList_appL _ rfl _ _ 27 rfl w.heap.size 63 (.agg #[.slice none 0 0, .int .i64 0, .int .i64 0]) 3 40 Tryz.underlying27 infAp rfl (by decide) u5 acc.length (acc.flatMap (El.cells eAp)) rfl hon #[.slice c.aid.a c.aid.xs.length c.aid.c, .int .i64 c.cls, .int .i64 c.inst] _ 1 1 rfl rfl (by intro q hq; simp at hq; (repeat' (rcases hq with rfl | hq)); all_goals (first | rfl | (subst hq; rfl))) (by unfold maxLen; omega) (by omega) LeW.le ?_; intro v' w1 ho' hg hat) | fail)
      go_roundw
      case rel =>
        refine ⟨k + 1, acc ++ [c], _, r2, by omega, by have := HA.out; simp; omega, by go_num, HI.out.step hp y HG.out HOK.out hR2.out (own_eq ho'.out (by simp) (by simp [eAp])) hg.out hat.out, hid ?_⟩
        rw [hHS.out, withP_ok hx.out, List.map_append, show N - (k + 1) = M from by have := HM.out; omega, List.map_cons, List.map_nil, HC.out]
      case measure => simp [intOf]; omega
    · go_wp2_with fail
      go_ret
      obtain rfl : k = N := by omega
      refine RdOut.ret hfp.out (x := acc.map Ap.er) (rest := r) (by rw [HS.out, Nat.sub_self, withP_zero]) (HI.out.done fun x _ => rfl) hRd.out
theorem infCl : (Tryz.prog.info? 49).map (fun i => (i.zero, i.size, i.bytes)) = some (some (.agg #[.int .i64 0, .int .i64 0, .bool false, .slice none 0 0, .slice none 0 0, .slice none 0 0, .slice none 0 0]), 7, 120) := by kernel_rfl
set_option maxRecDepth 20000 in
set_option maxHeartbeats 1000000 in
theorem rlist_cl (p : Nat) (w : World) (bs : List Int) (f : Rr Cl) (hR : Hid (Rd p w bs)) (hrep : ∀ base W v x, RepCl base W v x → RepE eCl Cl.v Cl.er base W v x)
    (hf : Hid (∀ (W : World) (cs : List Int), Rd p W cs → Parses 101 Tryz.prog 137 #[.pointer (some ⟨p, 0, none⟩)] p W (f cs) RepCl)) :
    Parses 101 Tryz.prog 136 #[.pointer (some ⟨p, 0, none⟩), .func (.func 137) #[.pointer (some ⟨p, 0, none⟩)] #[]] p w (listP f bs) (RepL eCl 7 Cl.er) := by
  unfold Parses
  have hp := hR.out.1
  haveI : InW p w := ⟨hp⟩
  haveI : LeW w.heap.size w := LeW.refl
  go_enter Tryz.func136, Tryz.ntmps136
  go_wp2_with (first | (go_at_call 132; refine (rnum_any p _ bs (hid (by (with_reducible repeat' (first | exact Hid.out (by assumption) | refine Rd.alloc ?_ _ | refine Rd.ext _ ?_ | refine Rd.drew ?_ | refine Rd.setCell ?_ (by omega) _)); first | done | fail))).go (fun n r1 v y h1 hx hR => ?_) (fun c y hr => ⟨rfl, RdOut.err (by (with_reducible repeat' (first | exact Fp.refl | exact Hid.out (by assumption) | refine Fp.alloc ?_ _ | refine fp_ext _ ?_ | refine fp_px _ ?_ | refine Fp.drew ?_ | refine Fp.setCell ?_ (.inr (by omega)) _)); first | done | fail) (Rr.bind_err hr.out)⟩); obtain ⟨rfl, l1n, l2n⟩ := hx.out; clear hx; have hs := y.size; (try simp at hs)) | fail)
  obtain ⟨N, rfl⟩ := Int.eq_ofNat_of_zero_le l1n
  have HS0 : Hid (listP f bs = withP (([] : List Cl).map Cl.er) (repP f (N - 0)) r1) := hid ((Rr.bind_ok h1.out).trans (by rw [List.map_nil, withP_nil]; simp))
  clear h1
  go_loopw [5, 8] (fun o i wr => ∃ (k : Nat) (acc : List Cl) (F : Nat → Prop) (r : List Int), k ≤ N ∧ acc.length = k ∧ i = .int .i64 k ∧ LInv eCl 7 49 p w o wr acc F r ∧ Hid (listP f bs = withP (acc.map Cl.er) (repP f (N - k)) r)) (fun _ i _ => N - (intOf i).toNat)
  case atStart => exact ⟨0, [], _, r1, Nat.zero_le _, rfl, rfl, LInv.start (by (with_reducible repeat' (first | exact Fp.refl | exact Hid.out (by assumption) | refine Fp.alloc ?_ _ | refine fp_ext _ ?_ | refine fp_px _ ?_ | refine Fp.drew ?_ | refine Fp.setCell ?_ (.inr (by omega)) _)); first | done | fail) hR.out, HS0⟩
  case round =>
    obtain ⟨k, acc, F, r, hk, hak, rfl, hI, HS⟩ := hrel
    have HI := hid hI
    have HA := hid hak
    have hfp := hid hI.fp
    have hRd := hid hI.rd
    have hwr := hI.fp.size
    haveI : LeW w.heap.size wr := ⟨hwr⟩
    clear hI hak
    by_cases hlt : k < N
    · obtain ⟨M, hM⟩ : ∃ M, N - k = M + 1 := ⟨N - k - 1, by omega⟩
      have HM := hid hM
      clear hM
      have hHS : Hid (listP f bs = withP (acc.map Cl.er) (repP f (M + 1)) r) := hid (by rw [← HM.out]; exact HS.out)
      have hal : acc.length ≤ 255 := by have := HA.out; omega
      go_wp2_with (first | (go_at_call 137; refine (hf.out _ r hRd.out).go (fun x r2 v y hx hrp hR2 => ?_) (fun c y hr => ⟨rfl, RdOut.err (by (with_reducible repeat' (first | exact Fp.refl | exact Hid.out (by assumption) | refine Fp.alloc ?_ _ | refine fp_ext _ ?_ | refine fp_px _ ?_ | refine Fp.drew ?_ | refine Fp.setCell ?_ (.inr (by omega)) _)); first | done | fail) (hHS.out.trans (withP_err hr.out))⟩); obtain ⟨c, G, rfl, hc, hG, hok⟩ := hrep _ _ _ _ hrp.out; have HC := hid hc; have HG := hid hG; have HOK := hid hok; clear hc hG hok hrp; have hon : Hid (y.val.ownsRow w.heap.size 49 7 u5 acc.length (acc.flatMap (El.cells eCl))) := hid (own_same HI.out.own fun b hb => y.fp.block b (HI.out.own.lt b hb).2 (by have := (HI.out.own.lt b hb).1; omega)); haveI : LeW w.heap.size y.val := ⟨Nat.le_trans hwr y.fp.size⟩) | (at_builtin; refine wpList_appL _ rfl _ _ 24 rfl w.heap.size 49 (.agg #[.int .i64 0, .int .i64 0, .bool false, .slice none 0 0, .slice none 0 0, .slice none 0 0, .slice none 0 0]) 7 120 Tryz.underlying24 infCl rfl (by decide) u5 acc.length (acc.flatMap (El.cells eCl)) rfl hon #[.int .i64 c.super.p, .int .i64 c.super.c, .bool c.isI, .slice c.ext.a c.ext.xs.length c.ext.c, .slice c.fields.a c.fields.xs.length c.fields.c, .slice c.virt.a c.virt.xs.length c.virt.c, .slice c.impls.a c.impls.xs.length c.impls.c] _ 1 1 rfl rfl (by intro q hq; simp at hq; (repeat' (rcases hq with rfl | hq)); all_goals (first | rfl | (subst hq; rfl))) (by unfold maxLen; omega) (by omega) LeW.le ?_; intro v' w1 ho' hg hat) | fail)
      go_roundw
      case rel =>
        refine ⟨k + 1, acc ++ [c], _, r2, by omega, by have := HA.out; simp; omega, by go_num, HI.out.step hp y HG.out HOK.out hR2.out (own_eq ho'.out (by simp) (by simp [eCl])) hg.out hat.out, hid ?_⟩
        rw [hHS.out, withP_ok hx.out, List.map_append, show N - (k + 1) = M from by have := HM.out; omega, List.map_cons, List.map_nil, HC.out]
      case measure => simp [intOf]; omega
    · go_wp2_with fail
      go_ret
      obtain rfl : k = N := by omega
      refine RdOut.ret hfp.out (x := acc.map Cl.er) (rest := r) (by rw [HS.out, Nat.sub_self, withP_zero]) (HI.out.done fun x _ => rfl) hRd.out
theorem infMe : (Tryz.prog.info? 55).map (fun i => (i.zero, i.size, i.bytes)) = some (some (.agg #[.bool false, .bool false, .int .i64 0, .slice none 0 0, .int .i64 0, .int .i64 0, .int .i64 0, .int .i64 0, .int .i64 0, .slice none 0 0, .slice none 0 0]), 11, 128) := by kernel_rfl
set_option maxRecDepth 20000 in
set_option maxHeartbeats 1000000 in
theorem rlist_me (p : Nat) (w : World) (bs : List Int) (f : Rr Me) (hR : Hid (Rd p w bs)) (hrep : ∀ base W v x, RepMe base W v x → RepE eMe Me.v Me.er base W v x)
    (hf : Hid (∀ (W : World) (cs : List Int), Rd p W cs → Parses 101 Tryz.prog 139 #[.pointer (some ⟨p, 0, none⟩)] p W (f cs) RepMe)) :
    Parses 101 Tryz.prog 138 #[.pointer (some ⟨p, 0, none⟩), .func (.func 139) #[.pointer (some ⟨p, 0, none⟩)] #[]] p w (listP f bs) (RepL eMe 11 Me.er) := by
  unfold Parses
  have hp := hR.out.1
  haveI : InW p w := ⟨hp⟩
  haveI : LeW w.heap.size w := LeW.refl
  go_enter Tryz.func138, Tryz.ntmps138
  go_wp2_with (first | (go_at_call 132; refine (rnum_any p _ bs (hid (by (with_reducible repeat' (first | exact Hid.out (by assumption) | refine Rd.alloc ?_ _ | refine Rd.ext _ ?_ | refine Rd.drew ?_ | refine Rd.setCell ?_ (by omega) _)); first | done | fail))).go (fun n r1 v y h1 hx hR => ?_) (fun c y hr => ⟨rfl, RdOut.err (by (with_reducible repeat' (first | exact Fp.refl | exact Hid.out (by assumption) | refine Fp.alloc ?_ _ | refine fp_ext _ ?_ | refine fp_px _ ?_ | refine Fp.drew ?_ | refine Fp.setCell ?_ (.inr (by omega)) _)); first | done | fail) (Rr.bind_err hr.out)⟩); obtain ⟨rfl, l1n, l2n⟩ := hx.out; clear hx; have hs := y.size; (try simp at hs)) | fail)
  obtain ⟨N, rfl⟩ := Int.eq_ofNat_of_zero_le l1n
  have HS0 : Hid (listP f bs = withP (([] : List Me).map Me.er) (repP f (N - 0)) r1) := hid ((Rr.bind_ok h1.out).trans (by rw [List.map_nil, withP_nil]; simp))
  clear h1
  go_loopw [5, 8] (fun o i wr => ∃ (k : Nat) (acc : List Me) (F : Nat → Prop) (r : List Int), k ≤ N ∧ acc.length = k ∧ i = .int .i64 k ∧ LInv eMe 11 55 p w o wr acc F r ∧ Hid (listP f bs = withP (acc.map Me.er) (repP f (N - k)) r)) (fun _ i _ => N - (intOf i).toNat)
  case atStart => exact ⟨0, [], _, r1, Nat.zero_le _, rfl, rfl, LInv.start (by (with_reducible repeat' (first | exact Fp.refl | exact Hid.out (by assumption) | refine Fp.alloc ?_ _ | refine fp_ext _ ?_ | refine fp_px _ ?_ | refine Fp.drew ?_ | refine Fp.setCell ?_ (.inr (by omega)) _)); first | done | fail) hR.out, HS0⟩
  case round =>
    obtain ⟨k, acc, F, r, hk, hak, rfl, hI, HS⟩ := hrel
    have HI := hid hI
    have HA := hid hak
    have hfp := hid hI.fp
    have hRd := hid hI.rd
    have hwr := hI.fp.size
    haveI : LeW w.heap.size wr := ⟨hwr⟩
    clear hI hak
    by_cases hlt : k < N
    · obtain ⟨M, hM⟩ : ∃ M, N - k = M + 1 := ⟨N - k - 1, by omega⟩
      have HM := hid hM
      clear hM
      have hHS : Hid (listP f bs = withP (acc.map Me.er) (repP f (M + 1)) r) := hid (by rw [← HM.out]; exact HS.out)
      have hal : acc.length ≤ 255 := by have := HA.out; omega
      go_wp2_with (first | (go_at_call 139; refine (hf.out _ r hRd.out).go (fun x r2 v y hx hrp hR2 => ?_) (fun c y hr => ⟨rfl, RdOut.err (by (with_reducible repeat' (first | exact Fp.refl | exact Hid.out (by assumption) | refine Fp.alloc ?_ _ | refine fp_ext _ ?_ | refine fp_px _ ?_ | refine Fp.drew ?_ | refine Fp.setCell ?_ (.inr (by omega)) _)); first | done | fail) (hHS.out.trans (withP_err hr.out))⟩); obtain ⟨c, G, rfl, hc, hG, hok⟩ := hrep _ _ _ _ hrp.out; have HC := hid hc; have HG := hid hG; have HOK := hid hok; clear hc hG hok hrp; have hon : Hid (y.val.ownsRow w.heap.size 55 11 u5 acc.length (acc.flatMap (El.cells eMe))) := hid (own_same HI.out.own fun b hb => y.fp.block b (HI.out.own.lt b hb).2 (by have := (HI.out.own.lt b hb).1; omega)); haveI : LeW w.heap.size y.val := ⟨Nat.le_trans hwr y.fp.size⟩) | (at_builtin; refine wpList_appL _ rfl _ _ 25 rfl w.heap.size 55 (.agg #[.bool false, .bool false, .int .i64 0, .slice none 0 0, .int .i64 0, .int .i64 0, .int .i64 0, .int .i64 0, .int .i64 0, .slice none 0 0, .slice none 0 0]) 11 128 Tryz.underlying25 infMe rfl (by decide) u5 acc.length (acc.flatMap (El.cells eMe)) rfl hon #[.bool c.static, .bool c.abs, .int .i64 c.cls, .slice c.params.a c.params.xs.length c.params.c, .int .i64 c.result.k, .int .i64 c.result.c.p, .int .i64 c.result.c.c, .int .i64 c.locals, .int .i64 c.stack, .slice c.code.a c.code.xs.length c.code.c, .slice c.hs.a c.hs.xs.length c.hs.c] _ 1 1 rfl rfl (by intro q hq; simp at hq; (repeat' (rcases hq with rfl | hq)); all_goals (first | rfl | (subst hq; rfl))) (by unfold maxLen; omega) (by omega) LeW.le ?_; intro v' w1 ho' hg hat) | fail)
      go_roundw
      case rel =>
        refine ⟨k + 1, acc ++ [c], _, r2, by omega, by have := HA.out; simp; omega, by go_num, HI.out.step hp y HG.out HOK.out hR2.out (own_eq ho'.out (by simp) (by simp [eMe])) hg.out hat.out, hid ?_⟩
        rw [hHS.out, withP_ok hx.out, List.map_append, show N - (k + 1) = M from by have := HM.out; omega, List.map_cons, List.map_nil, HC.out]
      case measure => simp [intOf]; omega
    · go_wp2_with fail
      go_ret
      obtain rfl : k = N := by omega
      refine RdOut.ret hfp.out (x := acc.map Me.er) (rest := r) (by rw [HS.out, Nat.sub_self, withP_zero]) (HI.out.done fun x _ => rfl) hRd.out
def Pk.er (p : Pk) : Pk := ⟨.er p.aid.xs, p.major, p.minor, .er (p.imports.xs.map Ip.er), .er (p.classes.xs.map Cl.er), .er (p.methods.xs.map Me.er), .er p.statics.xs, .er (p.applets.xs.map Ap.er)⟩
def ePk : El Pk := ⟨fun _ => [], fun w p => p.Ok w, fun hb h => h.mono hb⟩
abbrev RepPk : Rp Pk := RepE ePk Pk.v Pk.er
theorem rep_pk {base : Nat} {w : World} {x y : Int} {s1 : Sl Int} {s2 : Sl Ip} {s3 : Sl Cl} {s4 : Sl Me} {s5 : Sl Ty} {s6 : Sl Ap} {a : List Int} {i : List Ip} {c : List Cl} {m : List Me} {s : List Ty} {p : List Ap}
    (h1 : RepL eByte 1 id base w s1.v a) (h2 : RepL eIp 3 Ip.er base w s2.v i) (h3 : RepL eCl 7 Cl.er base w s3.v c) (h4 : RepL eMe 11 Me.er base w s4.v m) (h5 : RepL eTy 3 id base w s5.v s) (h6 : RepL eAp 3 Ap.er base w s6.v p) (hx : i64ok x) (hy : i64ok y) :
    RepPk base w (.agg #[.slice s1.a s1.xs.length s1.c, .int .i64 x, .int .i64 y, .slice s2.a s2.xs.length s2.c, .slice s3.a s3.xs.length s3.c, .slice s4.a s4.xs.length s4.c, .slice s5.a s5.xs.length s5.c, .slice s6.a s6.xs.length s6.c]) ⟨.er a, x, y, .er i, .er c, .er m, .er s, .er p⟩ := by
  obtain ⟨t1, F1, a1, q1, c1, d1⟩ := h1
  obtain ⟨t2, F2, a2, q2, c2, d2⟩ := h2
  obtain ⟨t3, F3, a3, q3, c3, d3⟩ := h3
  obtain ⟨t4, F4, a4, q4, c4, d4⟩ := h4
  obtain ⟨t5, F5, a5, q5, c5, d5⟩ := h5
  obtain ⟨t6, F6, a6, q6, c6, d6⟩ := h6
  refine ⟨⟨t1, x, y, t2, t3, t4, t5, t6⟩, fun k => F1 k ∨ F2 k ∨ F3 k ∨ F4 k ∨ F5 k ∨ F6 k, ?_, ?_, ?_, fun w' hs' hw => ⟨d1 w' hs' fun k h => hw k (.inl h), hx, hy, d2 w' hs' fun k h => hw k (.inr (.inl h)), d3 w' hs' fun k h => hw k (.inr (.inr (.inl h))), d4 w' hs' fun k h => hw k (.inr (.inr (.inr (.inl h)))), d5 w' hs' fun k h => hw k (.inr (.inr (.inr (.inr (.inl h))))), d6 w' hs' fun k h => hw k (.inr (.inr (.inr (.inr (.inr h)))))⟩⟩
  · rw [show Value.slice s1.a s1.xs.length s1.c = t1.v from a1, show Value.slice s2.a s2.xs.length s2.c = t2.v from a2, show Value.slice s3.a s3.xs.length s3.c = t3.v from a3, show Value.slice s4.a s4.xs.length s4.c = t4.v from a4, show Value.slice s5.a s5.xs.length s5.c = t5.v from a5, show Value.slice s6.a s6.xs.length s6.c = t6.v from a6]
  · simp [Pk.er, ← q1, ← q2, ← q3, ← q4, ← q5, ← q6]
  · intro k hk
    rcases hk with h | h | h | h | h | h
    · exact c1 k h
    · exact c2 k h
    · exact c3 k h
    · exact c4 k h
    · exact c5 k h
    · exact c6 k h
end Go.Proofs.YthagkijplklemaaGreatDoor
end
