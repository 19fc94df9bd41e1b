/- The program's reader: Clone of bytes; number, wide, aid. The program's reader: wide, aid, ref, virtual, typ. The program's reader: lists of numbers, references, types, virtual methods. The program's reader: an implementation. -/
import Derived.Test.YthagkijplklemaaGreatDoorS20
import Derived.Test.YthagkijplklemaaGreatDoorS16
import Derived.BigGuardPart
import Derived.Test.YthagkijplklemaaGreatDoorS13
import Derived.Deep.DeepMust
section
namespace Go.Proofs.YthagkijplklemaaGreatDoor
open Go.ChangeShapes Go.WideShapes Go.ChangeAt Go.RowKit Go.Sc
theorem clone_any (s : Sl Int) (w : World) (hs : Hid (Bytes w s)) (hl : s.xs.length ≤ 1099511627776) : GivesB Tryz.prog 91 #[s.v] w (fun v => v) s.xs := by
  unfold GivesB
  obtain ⟨a, c, xs⟩ := s
  have hle := hs.out.le
  have hmx := hs.out.max
  simp only at hle hmx hl
  have hq := fun (w : World) (A : Option Addr) (n c : Nat) => Lib.run_eql_slice_nil (P := Tryz.prog) w 22 5 A n c 0 0 Tryz.underlying22
  cases a with
  | none =>
    have hc : c = 0 := hs.out.nil rfl
    subst hc
    obtain rfl : xs = [] := List.eq_nil_of_length_eq_zero (by omega)
    go_enter Tryz.func91, Tryz.ntmps91
    go_wp2
    go_ret
    exact ⟨none, 0, rfl, hs.out, END, fun b o q h => by cases h⟩
  | some ad =>
    go_enter Tryz.func91, Tryz.ntmps91
    go_wp2_with (at_builtin; refine wpList_appS _ rfl _ _ 22 rfl w.heap.size 5 (.int .u8 0) 1 1 Tryz.underlying22 infU8 rfl (by decide) _ 0 [] rfl (hid (World.ownsRow_made w #[] 0 (Nat.le_refl _) (by decide) rfl)) eByte ⟨some ad, c, xs⟩ (hid (hs.out.mono END)) (fun y _ => ⟨rfl, fun u hu => by simp [eByte] at hu; subst hu; rfl⟩) rfl (by unfold maxLen; simp only; omega) (by simp only; omega) (by simp) ?_; intro v' w1 ho hg hat)
    go_ret
    have ho2 := ho.out
    simp only [Nat.zero_add, List.nil_append] at ho2
    obtain ⟨a', c', rfl, h1, h2⟩ := sl_of_own ho2 (fun x _ => rfl) hs.out.range
    refine ⟨a', c', rfl, h1, ?_, fun b o q h => (h2 b o q h).1⟩
    exact (Below.alloc (Below.refl _ _) (Nat.le_refl _) _).grown hg.out (by simp) (fun k hk => by have hk' : some w.heap.size = some k := hk; cases hk'; exact Nat.le_refl _)
theorem rnum_any (p : Nat) (w : World) (bs : List Int) (hR : Hid (Rd p w bs)) : Parses 101 Tryz.prog 132 #[.pointer (some ⟨p, 0, none⟩)] p w (numP bs) RepN := by
  unfold Parses
  cases bs with
  | nil =>
    go_enter Tryz.func132, Tryz.ntmps132
    go_wp2_with (go_at_call 192; refine (rbytes_any p 1 _ [] hR).go (fun x r v y hr hx hR2 => absurd hr.out (by simp [bytesP])) (fun c y hr => ⟨rfl, RdOut.err (by (with_reducible repeat' (first | exact Fp.refl | exact Hid.out (by assumption) | refine Fp.alloc ?_ _ | refine fp_ext _ ?_ | refine fp_px _ ?_ | refine Fp.drew ?_ | refine Fp.setCell ?_ (.inr (by omega)) _)); first | done | fail) (by have := hr.out; simp [bytesP] at this; subst this; rfl)⟩))
  | cons x r =>
    have hc : Hid (∀ W : World, Rd p W (x :: r) → Calls Tryz.prog 192 #[.pointer (some ⟨p, 0, none⟩), .int .i64 1] W fun e w' => ∃ (b off c : Nat) (y : Px p W), w' = y.val ∧ e = .returned (.slice (some ⟨b, off, none⟩) 1 c) ∧ y.val.cell? ⟨b, off, none⟩ = some (.int .u8 x) ∧ Hid (0 ≤ x ∧ x ≤ 255) ∧ Hid (Rd p y.val r)) := fun W hW =>
      (rbytes_any p 1 W (x :: r) hW).go (fun q rest v y hr hx hR2 => by
        have e := hr.out
        simp [bytesP] at e
        obtain ⟨rfl, rfl⟩ := e
        obtain ⟨a, c, rfl, hb, _⟩ := hx.out
        obtain ⟨h1, b, off, h2, _, h4⟩ := hb.at_ 0 x rfl
        simp only at h2
        subst h2
        exact ⟨b, off, c, y, rfl, rfl, by simpa using h4 0 _ rfl, h1, hR2⟩) (fun c y hr => absurd hr.out (by simp [bytesP]))
    go_enter Tryz.func132, Tryz.ntmps132
    go_wp2_with (go_at_call 192; refine (hc.out _ hR.out).mono ?_; rintro e w' ⟨b, off, c, y, rfl, rfl, h0, hx, hR2⟩; have hx1 := hx.out.1; have hx2 := hx.out.2)
    go_ret
    exact RdOut.ret (by (with_reducible repeat' (first | exact Fp.refl | exact Hid.out (by assumption) | refine Fp.alloc ?_ _ | refine fp_ext _ ?_ | refine fp_px _ ?_ | refine Fp.drew ?_ | refine Fp.setCell ?_ (.inr (by omega)) _)); first | done | fail) rfl ⟨rfl, hx.out⟩ hR2.out
end Go.Proofs.YthagkijplklemaaGreatDoor
end

section
namespace Go.Proofs.YthagkijplklemaaGreatDoor
open Go.ChangeShapes Go.WideShapes Go.ChangeAt Go.RowKit Go.Sc
abbrev RepRf : Rp Rf := RepE eRf Rf.v id
abbrev RepTy : Rp Ty := RepE eTy Ty.v id
theorem rep_plain {α : Type} {E : El α} {val : α → Value} {base : Nat} {w : World} {x : α} (h : ∀ w', E.ok w' x) : RepE E val id base w (val x) x := ⟨x, fun _ => False, rfl, rfl, fun _ h => h.elim, fun w' _ _ => h w'⟩
theorem ret_i64 {a b : Int} (h : a = b) : Value.int .i64 a = Value.int .i64 b := by rw [h]
theorem i64_byte {n : Int} (h1 : 0 ≤ n) (h2 : n ≤ 255) : i64ok n := ⟨by omega, by omega⟩
theorem rep_rf {base : Nat} {w : World} {a b : Int} (h1 : 0 ≤ a) (h2 : a ≤ 255) (h3 : 0 ≤ b) (h4 : b ≤ 255) : RepRf base w (.agg #[.int .i64 a, .int .i64 b]) ⟨a, b⟩ :=
  rep_plain (E := eRf) (val := Rf.v) (x := ⟨a, b⟩) fun _ => ⟨i64_byte h1 h2, i64_byte h3 h4⟩
theorem rep_ty {base : Nat} {w : World} {k a b : Int} (h1 : 0 ≤ k) (h2 : k ≤ 255) (h3 : i64ok a) (h4 : i64ok b) : RepTy base w (.agg #[.int .i64 k, .int .i64 a, .int .i64 b]) ⟨k, ⟨a, b⟩⟩ :=
  rep_plain (E := eTy) (val := Ty.v) (x := ⟨k, ⟨a, b⟩⟩) fun _ => ⟨i64_byte h1 h2, h3, h4⟩
theorem rref_any (p : Nat) (w : World) (bs : List Int) (hR : Hid (Rd p w bs)) : Parses 101 Tryz.prog 193 #[.pointer (some ⟨p, 0, none⟩)] p w (refP bs) RepRf := by
  unfold Parses
  have hp := hR.out.1
  haveI : InW p w := ⟨hp⟩
  go_enter Tryz.func193, Tryz.ntmps193
  go_wp2_with (first | (go_at_call 132; refine (rnum_any p _ bs (hid (by (with_reducible repeat' (first | exact Hid.out (by assumption) | refine Rd.alloc ?_ _ | refine Rd.ext _ ?_ | refine Rd.drew ?_ | refine Rd.setCell ?_ (by omega) _)); first | done | fail))).go (fun a r1 v y h1 hx hR => ?_) (fun c y hr => ⟨rfl, RdOut.err (by (with_reducible repeat' (first | exact Fp.refl | exact Hid.out (by assumption) | refine Fp.alloc ?_ _ | refine fp_ext _ ?_ | refine fp_px _ ?_ | refine Fp.drew ?_ | refine Fp.setCell ?_ (.inr (by omega)) _)); first | done | fail) (Rr.bind_err hr.out)⟩); obtain ⟨rfl, l1a, l2a⟩ := hx.out; clear hx; have hs := y.size; (try simp at hs)) | fail)
  go_wp2_with (first | (go_at_call 132; refine (rnum_any p _ r1 (hid (by (with_reducible repeat' (first | exact Hid.out (by assumption) | refine Rd.alloc ?_ _ | refine Rd.ext _ ?_ | refine Rd.drew ?_ | refine Rd.setCell ?_ (by omega) _)); first | done | fail))).go (fun b r2 v y h2 hx hR => ?_) (fun c y hr => ⟨rfl, RdOut.err (by (with_reducible repeat' (first | exact Fp.refl | exact Hid.out (by assumption) | refine Fp.alloc ?_ _ | refine fp_ext _ ?_ | refine fp_px _ ?_ | refine Fp.drew ?_ | refine Fp.setCell ?_ (.inr (by omega)) _)); first | done | fail) ((Rr.bind_ok h1.out).trans (Rr.bind_err hr.out))⟩); obtain ⟨rfl, l1b, l2b⟩ := hx.out; clear hx; have hs := y.size; (try simp at hs)) | fail)
  go_returns
  exact RdOut.ret (by (with_reducible repeat' (first | exact Fp.refl | exact Hid.out (by assumption) | refine Fp.alloc ?_ _ | refine fp_ext _ ?_ | refine fp_px _ ?_ | refine Fp.drew ?_ | refine Fp.setCell ?_ (.inr (by omega)) _)); first | done | fail) ((Rr.bind_ok h1.out).trans (Rr.bind_ok h2.out)) (rep_rf l1a l2a l1b l2b) (by (with_reducible repeat' (first | exact Hid.out (by assumption) | refine Rd.alloc ?_ _ | refine Rd.ext _ ?_ | refine Rd.drew ?_ | refine Rd.setCell ?_ (by omega) _)); first | done | fail)
def RepV : Rp Int := fun _ _ v x => v = .int .i64 x ∧ -1 ≤ x ∧ x ≤ 254
theorem rvirt_any (p : Nat) (w : World) (bs : List Int) (hR : Hid (Rd p w bs)) : Parses 101 Tryz.prog 196 #[.pointer (some ⟨p, 0, none⟩)] p w (virtP bs) RepV := by
  unfold Parses
  go_enter Tryz.func196, Tryz.ntmps196
  go_wp2_with (first | (go_at_call 132; refine (rnum_any p _ bs (hid (by (with_reducible repeat' (first | exact Hid.out (by assumption) | refine Rd.alloc ?_ _ | refine Rd.ext _ ?_ | refine Rd.drew ?_ | refine Rd.setCell ?_ (by omega) _)); first | done | fail))).go (fun a r1 v y h1 hx hR => ?_) (fun c y hr => ⟨rfl, RdOut.err (by (with_reducible repeat' (first | exact Fp.refl | exact Hid.out (by assumption) | refine Fp.alloc ?_ _ | refine fp_ext _ ?_ | refine fp_px _ ?_ | refine Fp.drew ?_ | refine Fp.setCell ?_ (.inr (by omega)) _)); first | done | fail) (Rr.bind_err hr.out)⟩); obtain ⟨rfl, l1a, l2a⟩ := hx.out; clear hx; have hs := y.size; (try simp at hs)) | fail)
  all_goals
    go_ret
    exact RdOut.ret (by (with_reducible repeat' (first | exact Fp.refl | exact Hid.out (by assumption) | refine Fp.alloc ?_ _ | refine fp_ext _ ?_ | refine fp_px _ ?_ | refine Fp.drew ?_ | refine Fp.setCell ?_ (.inr (by omega)) _)); first | done | fail) (Rr.bind_ok h1.out) ⟨ret_i64 (by grind), by grind, by grind⟩ hR.out
set_option maxHeartbeats 1000000 in
theorem rtyp_any (p : Nat) (w : World) (bs : List Int) (hR : Hid (Rd p w bs)) : Parses 101 Tryz.prog 141 #[.pointer (some ⟨p, 0, none⟩)] p w (typP bs) RepTy := by
  unfold Parses
  have hp := hR.out.1
  haveI : InW p w := ⟨hp⟩
  go_enter Tryz.func141, Tryz.ntmps141
  go_wp2_with (first | (go_at_call 132; refine (rnum_any p _ bs (hid (by (with_reducible repeat' (first | exact Hid.out (by assumption) | refine Rd.alloc ?_ _ | refine Rd.ext _ ?_ | refine Rd.drew ?_ | refine Rd.setCell ?_ (by omega) _)); first | done | fail))).go (fun a r1 v y h1 hx hR => ?_) (fun c y hr => ⟨rfl, RdOut.err (by (with_reducible repeat' (first | exact Fp.refl | exact Hid.out (by assumption) | refine Fp.alloc ?_ _ | refine fp_ext _ ?_ | refine fp_px _ ?_ | refine Fp.drew ?_ | refine Fp.setCell ?_ (.inr (by omega)) _)); first | done | fail) (Rr.bind_err hr.out)⟩); obtain ⟨rfl, l1a, l2a⟩ := hx.out; clear hx; have hs := y.size; (try simp at hs)) | fail)
  · exact ⟨rfl, RdOut.err (by (with_reducible repeat' (first | exact Fp.refl | exact Hid.out (by assumption) | refine Fp.alloc ?_ _ | refine fp_ext _ ?_ | refine fp_px _ ?_ | refine Fp.drew ?_ | refine Fp.setCell ?_ (.inr (by omega)) _)); first | done | fail) ((Rr.bind_ok h1.out).trans (by rw [if_pos (by assumption)]; rfl))⟩
  · have hne1 : ¬ w.heap.size = y.val.heap.size := by omega
    have hne2 : ¬ y.val.heap.size = w.heap.size := by omega
    go_wp2_with (first | (go_at_call 193; go_must (refine (rref_any p _ r1 (hid (by (with_reducible repeat' (first | exact Hid.out (by assumption) | refine Rd.alloc ?_ _ | refine Rd.ext _ ?_ | refine Rd.drew ?_ | refine Rd.setCell ?_ (by omega) _)); first | done | fail))).go (fun x r2 v y h2 hx hR => ?_) (fun c y hr => ⟨rfl, RdOut.err (by (with_reducible repeat' (first | exact Fp.refl | exact Hid.out (by assumption) | refine Fp.alloc ?_ _ | refine fp_ext _ ?_ | refine fp_px _ ?_ | refine Fp.drew ?_ | refine Fp.setCell ?_ (.inr (by omega)) _)); first | done | fail) ((Rr.bind_ok h1.out).trans (by rw [if_neg (by omega), if_pos (by grind)]; exact Rr.bind_err hr.out))⟩)); obtain ⟨q, F, rfl, hq, hF, hok⟩ := hx.out; simp only [id] at hq; subst hq; have hs := y.size; (try simp at hs); have hok2 := hid (hok _ (Nat.le_refl _) fun _ _ => rfl); clear hx hok) | fail)
    go_returns
    exact RdOut.ret (by (with_reducible repeat' (first | exact Fp.refl | exact Hid.out (by assumption) | refine Fp.alloc ?_ _ | refine fp_ext _ ?_ | refine fp_px _ ?_ | refine Fp.drew ?_ | refine Fp.setCell ?_ (.inr (by omega)) _)); first | done | fail) ((Rr.bind_ok h1.out).trans (by rw [if_neg (by omega), if_pos (by grind)]; exact Rr.bind_ok h2.out)) (rep_ty l1a l2a hok2.out.1 hok2.out.2) (by (with_reducible repeat' (first | exact Hid.out (by assumption) | refine Rd.alloc ?_ _ | refine Rd.ext _ ?_ | refine Rd.drew ?_ | refine Rd.setCell ?_ (by omega) _)); first | done | fail)
  · go_returns
    exact RdOut.ret (by (with_reducible repeat' (first | exact Fp.refl | exact Hid.out (by assumption) | refine Fp.alloc ?_ _ | refine fp_ext _ ?_ | refine fp_px _ ?_ | refine Fp.drew ?_ | refine Fp.setCell ?_ (.inr (by omega)) _)); first | done | fail) ((Rr.bind_ok h1.out).trans (by rw [if_neg (by omega), if_neg (by grind)]; rfl)) (rep_ty l1a l2a (i64_byte (by omega) (by omega)) (i64_byte (by omega) (by omega))) (by (with_reducible repeat' (first | exact Hid.out (by assumption) | refine Rd.alloc ?_ _ | refine Rd.ext _ ?_ | refine Rd.drew ?_ | refine Rd.setCell ?_ (by omega) _)); first | done | fail)
end Go.Proofs.YthagkijplklemaaGreatDoor
end

section
namespace Go.Proofs.YthagkijplklemaaGreatDoor
open Go.ChangeShapes Go.WideShapes Go.ChangeAt Go.RowKit Go.Sc
theorem num_rep {base : Nat} {W : World} {v : Value} {x : Int} (h : RepN base W v x) : RepE eInt (Value.int .i64) id base W v x := by
  obtain ⟨rfl, h1, h2⟩ := h
  exact rep_plain (val := Value.int .i64) fun _ => ⟨by omega, by omega⟩
theorem virt_rep {base : Nat} {W : World} {v : Value} {x : Int} (h : RepV base W v x) : RepE eInt (Value.int .i64) id base W v x := by
  obtain ⟨rfl, h1, h2⟩ := h
  exact rep_plain (val := Value.int .i64) fun _ => ⟨by omega, by omega⟩
theorem infRf : (Tryz.prog.info? 44).map (fun i => (i.zero, i.size, i.bytes)) = some (some (.agg #[.int .i64 0, .int .i64 0]), 2, 16) := by kernel_rfl
set_option maxRecDepth 20000 in
set_option maxHeartbeats 1000000 in
theorem rlist_rf (p : Nat) (w : World) (bs : List Int) (f : Rr Rf) (hR : Hid (Rd p w bs)) (hrep : ∀ base W v x, RepRf base W v x → RepE eRf Rf.v id base W v x)
    (hf : Hid (∀ (W : World) (cs : List Int), Rd p W cs → Parses 101 Tryz.prog 193 #[.pointer (some ⟨p, 0, none⟩)] p W (f cs) RepRf)) :
    Parses 101 Tryz.prog 194 #[.pointer (some ⟨p, 0, none⟩), .func (.func 193) #[.pointer (some ⟨p, 0, none⟩)] #[]] p w (listP f bs) (RepL eRf 2 id) := by
  unfold Parses
  have hp := hR.out.1
  haveI : InW p w := ⟨hp⟩
  haveI : LeW w.heap.size w := LeW.refl
  go_enter Tryz.func194, Tryz.ntmps194
  go_wp2_with (first | (go_at_call 132; refine (rnum_any p _ bs (hid (by (with_reducible repeat' (first | exact Hid.out (by assumption) | refine Rd.alloc ?_ _ | refine Rd.ext _ ?_ | refine Rd.drew ?_ | refine Rd.setCell ?_ (by omega) _)); first | done | fail))).go (fun n r1 v y h1 hx hR => ?_) (fun c y hr => ⟨rfl, RdOut.err (by (with_reducible repeat' (first | exact Fp.refl | exact Hid.out (by assumption) | refine Fp.alloc ?_ _ | refine fp_ext _ ?_ | refine fp_px _ ?_ | refine Fp.drew ?_ | refine Fp.setCell ?_ (.inr (by omega)) _)); first | done | fail) (Rr.bind_err hr.out)⟩); obtain ⟨rfl, l1n, l2n⟩ := hx.out; clear hx; have hs := y.size; (try simp at hs)) | fail)
  obtain ⟨N, rfl⟩ := Int.eq_ofNat_of_zero_le l1n
  have HS0 : Hid (listP f bs = withP (([] : List Rf).map id) (repP f (N - 0)) r1) := hid ((Rr.bind_ok h1.out).trans (by rw [List.map_nil, withP_nil]; simp))
  clear h1
  go_loopw [5, 8] (fun o i wr => ∃ (k : Nat) (acc : List Rf) (F : Nat → Prop) (r : List Int), k ≤ N ∧ acc.length = k ∧ i = .int .i64 k ∧ LInv eRf 2 44 p w o wr acc F r ∧ Hid (listP f bs = withP (acc.map id) (repP f (N - k)) r)) (fun _ i _ => N - (intOf i).toNat)
  case atStart => exact ⟨0, [], _, r1, Nat.zero_le _, rfl, rfl, LInv.start (by (with_reducible repeat' (first | exact Fp.refl | exact Hid.out (by assumption) | refine Fp.alloc ?_ _ | refine fp_ext _ ?_ | refine fp_px _ ?_ | refine Fp.drew ?_ | refine Fp.setCell ?_ (.inr (by omega)) _)); first | done | fail) hR.out, HS0⟩
  case round =>
    obtain ⟨k, acc, F, r, hk, hak, rfl, hI, HS⟩ := hrel
    have HI := hid hI
    have HA := hid hak
    have hfp := hid hI.fp
    have hRd := hid hI.rd
    have hwr := hI.fp.size
    haveI : LeW w.heap.size wr := ⟨hwr⟩
    clear hI hak
    by_cases hlt : k < N
    · obtain ⟨M, hM⟩ : ∃ M, N - k = M + 1 := ⟨N - k - 1, by omega⟩
      have HM := hid hM
      clear hM
      have hHS : Hid (listP f bs = withP (acc.map id) (repP f (M + 1)) r) := hid (by rw [← HM.out]; exact HS.out)
      have hal : acc.length ≤ 255 := by have := HA.out; omega
      go_wp2_with (first | (go_at_call 193; refine (hf.out _ r hRd.out).go (fun x r2 v y hx hrp hR2 => ?_) (fun c y hr => ⟨rfl, RdOut.err (by (with_reducible repeat' (first | exact Fp.refl | exact Hid.out (by assumption) | refine Fp.alloc ?_ _ | refine fp_ext _ ?_ | refine fp_px _ ?_ | refine Fp.drew ?_ | refine Fp.setCell ?_ (.inr (by omega)) _)); first | done | fail) (hHS.out.trans (withP_err hr.out))⟩); obtain ⟨c, G, rfl, hc, hG, hok⟩ := hrep _ _ _ _ hrp.out; have HC := hid hc; have HG := hid hG; have HOK := hid hok; clear hc hG hok hrp; have hon : Hid (y.val.ownsRow w.heap.size 44 2 u5 acc.length (acc.flatMap (El.cells eRf))) := hid (own_same HI.out.own fun b hb => y.fp.block b (HI.out.own.lt b hb).2 (by have := (HI.out.own.lt b hb).1; omega)); haveI : LeW w.heap.size y.val := ⟨Nat.le_trans hwr y.fp.size⟩) | (at_builtin; refine wpList_appL _ rfl _ _ 45 rfl w.heap.size 44 (.agg #[.int .i64 0, .int .i64 0]) 2 16 Tryz.underlying45 infRf rfl (by decide) u5 acc.length (acc.flatMap (El.cells eRf)) rfl hon #[.int .i64 c.p, .int .i64 c.c] _ 1 1 rfl rfl (by intro q hq; simp at hq; (repeat' (rcases hq with rfl | hq)); all_goals (first | rfl | (subst hq; rfl))) (by unfold maxLen; omega) (by omega) LeW.le ?_; intro v' w1 ho' hg hat) | fail)
      go_roundw
      case rel =>
        refine ⟨k + 1, acc ++ [c], _, r2, by omega, by have := HA.out; simp; omega, by go_num, HI.out.step hp y HG.out HOK.out hR2.out (own_eq ho'.out (by simp) (by simp [eRf])) hg.out hat.out, hid ?_⟩
        rw [hHS.out, withP_ok hx.out, List.map_append, show N - (k + 1) = M from by have := HM.out; omega, List.map_cons, List.map_nil, HC.out]
      case measure => simp [intOf]; omega
    · go_wp2_with fail
      go_ret
      obtain rfl : k = N := by omega
      refine RdOut.ret hfp.out (x := acc.map id) (rest := r) (by rw [HS.out, Nat.sub_self, withP_zero]) (HI.out.done fun x _ => rfl) hRd.out
theorem infTy : (Tryz.prog.info? 51).map (fun i => (i.zero, i.size, i.bytes)) = some (some (.agg #[.int .i64 0, .int .i64 0, .int .i64 0]), 3, 24) := by kernel_rfl
set_option maxRecDepth 20000 in
set_option maxHeartbeats 1000000 in
theorem rlist_ty (p : Nat) (w : World) (bs : List Int) (f : Rr Ty) (hR : Hid (Rd p w bs)) (hrep : ∀ base W v x, RepTy base W v x → RepE eTy Ty.v id base W v x)
    (hf : Hid (∀ (W : World) (cs : List Int), Rd p W cs → Parses 101 Tryz.prog 141 #[.pointer (some ⟨p, 0, none⟩)] p W (f cs) RepTy)) :
    Parses 101 Tryz.prog 140 #[.pointer (some ⟨p, 0, none⟩), .func (.func 141) #[.pointer (some ⟨p, 0, none⟩)] #[]] p w (listP f bs) (RepL eTy 3 id) := by
  unfold Parses
  have hp := hR.out.1
  haveI : InW p w := ⟨hp⟩
  haveI : LeW w.heap.size w := LeW.refl
  go_enter Tryz.func140, Tryz.ntmps140
  go_wp2_with (first | (go_at_call 132; refine (rnum_any p _ bs (hid (by (with_reducible repeat' (first | exact Hid.out (by assumption) | refine Rd.alloc ?_ _ | refine Rd.ext _ ?_ | refine Rd.drew ?_ | refine Rd.setCell ?_ (by omega) _)); first | done | fail))).go (fun n r1 v y h1 hx hR => ?_) (fun c y hr => ⟨rfl, RdOut.err (by (with_reducible repeat' (first | exact Fp.refl | exact Hid.out (by assumption) | refine Fp.alloc ?_ _ | refine fp_ext _ ?_ | refine fp_px _ ?_ | refine Fp.drew ?_ | refine Fp.setCell ?_ (.inr (by omega)) _)); first | done | fail) (Rr.bind_err hr.out)⟩); obtain ⟨rfl, l1n, l2n⟩ := hx.out; clear hx; have hs := y.size; (try simp at hs)) | fail)
  obtain ⟨N, rfl⟩ := Int.eq_ofNat_of_zero_le l1n
  have HS0 : Hid (listP f bs = withP (([] : List Ty).map id) (repP f (N - 0)) r1) := hid ((Rr.bind_ok h1.out).trans (by rw [List.map_nil, withP_nil]; simp))
  clear h1
  go_loopw [5, 8] (fun o i wr => ∃ (k : Nat) (acc : List Ty) (F : Nat → Prop) (r : List Int), k ≤ N ∧ acc.length = k ∧ i = .int .i64 k ∧ LInv eTy 3 51 p w o wr acc F r ∧ Hid (listP f bs = withP (acc.map id) (repP f (N - k)) r)) (fun _ i _ => N - (intOf i).toNat)
  case atStart => exact ⟨0, [], _, r1, Nat.zero_le _, rfl, rfl, LInv.start (by (with_reducible repeat' (first | exact Fp.refl | exact Hid.out (by assumption) | refine Fp.alloc ?_ _ | refine fp_ext _ ?_ | refine fp_px _ ?_ | refine Fp.drew ?_ | refine Fp.setCell ?_ (.inr (by omega)) _)); first | done | fail) hR.out, HS0⟩
  case round =>
    obtain ⟨k, acc, F, r, hk, hak, rfl, hI, HS⟩ := hrel
    have HI := hid hI
    have HA := hid hak
    have hfp := hid hI.fp
    have hRd := hid hI.rd
    have hwr := hI.fp.size
    haveI : LeW w.heap.size wr := ⟨hwr⟩
    clear hI hak
    by_cases hlt : k < N
    · obtain ⟨M, hM⟩ : ∃ M, N - k = M + 1 := ⟨N - k - 1, by omega⟩
      have HM := hid hM
      clear hM
      have hHS : Hid (listP f bs = withP (acc.map id) (repP f (M + 1)) r) := hid (by rw [← HM.out]; exact HS.out)
      have hal : acc.length ≤ 255 := by have := HA.out; omega
      go_wp2_with (first | (go_at_call 141; refine (hf.out _ r hRd.out).go (fun x r2 v y hx hrp hR2 => ?_) (fun c y hr => ⟨rfl, RdOut.err (by (with_reducible repeat' (first | exact Fp.refl | exact Hid.out (by assumption) | refine Fp.alloc ?_ _ | refine fp_ext _ ?_ | refine fp_px _ ?_ | refine Fp.drew ?_ | refine Fp.setCell ?_ (.inr (by omega)) _)); first | done | fail) (hHS.out.trans (withP_err hr.out))⟩); obtain ⟨c, G, rfl, hc, hG, hok⟩ := hrep _ _ _ _ hrp.out; have HC := hid hc; have HG := hid hG; have HOK := hid hok; clear hc hG hok hrp; have hon : Hid (y.val.ownsRow w.heap.size 51 3 u5 acc.length (acc.flatMap (El.cells eTy))) := hid (own_same HI.out.own fun b hb => y.fp.block b (HI.out.own.lt b hb).2 (by have := (HI.out.own.lt b hb).1; omega)); haveI : LeW w.heap.size y.val := ⟨Nat.le_trans hwr y.fp.size⟩) | (at_builtin; refine wpList_appL _ rfl _ _ 26 rfl w.heap.size 51 (.agg #[.int .i64 0, .int .i64 0, .int .i64 0]) 3 24 Tryz.underlying26 infTy rfl (by decide) u5 acc.length (acc.flatMap (El.cells eTy)) rfl hon #[.int .i64 c.k, .int .i64 c.c.p, .int .i64 c.c.c] _ 1 1 rfl rfl (by intro q hq; simp at hq; (repeat' (rcases hq with rfl | hq)); all_goals (first | rfl | (subst hq; rfl))) (by unfold maxLen; omega) (by omega) LeW.le ?_; intro v' w1 ho' hg hat) | fail)
      go_roundw
      case rel =>
        refine ⟨k + 1, acc ++ [c], _, r2, by omega, by have := HA.out; simp; omega, by go_num, HI.out.step hp y HG.out HOK.out hR2.out (own_eq ho'.out (by simp) (by simp [eTy])) hg.out hat.out, hid ?_⟩
        rw [hHS.out, withP_ok hx.out, List.map_append, show N - (k + 1) = M from by have := HM.out; omega, List.map_cons, List.map_nil, HC.out]
      case measure => simp [intOf]; omega
    · go_wp2_with fail
      go_ret
      obtain rfl : k = N := by omega
      refine RdOut.ret hfp.out (x := acc.map id) (rest := r) (by rw [HS.out, Nat.sub_self, withP_zero]) (HI.out.done fun x _ => rfl) hRd.out
theorem infInt : (Tryz.prog.info? 3).map (fun i => (i.zero, i.size, i.bytes)) = some (some (.int .i64 0), 1, 8) := by kernel_rfl
set_option maxRecDepth 20000 in
set_option maxHeartbeats 1000000 in
theorem rlist_num (p : Nat) (w : World) (bs : List Int) (f : Rr Int) (hR : Hid (Rd p w bs)) (hrep : ∀ base W v x, RepN base W v x → RepE eInt (Value.int .i64) id base W v x)
    (hf : Hid (∀ (W : World) (cs : List Int), Rd p W cs → Parses 101 Tryz.prog 132 #[.pointer (some ⟨p, 0, none⟩)] p W (f cs) RepN)) :
    Parses 101 Tryz.prog 195 #[.pointer (some ⟨p, 0, none⟩), .func (.func 132) #[.pointer (some ⟨p, 0, none⟩)] #[]] p w (listP f bs) (RepL eInt 1 id) := by
  unfold Parses
  have hp := hR.out.1
  haveI : InW p w := ⟨hp⟩
  haveI : LeW w.heap.size w := LeW.refl
  go_enter Tryz.func195, Tryz.ntmps195
  go_wp2_with (first | (go_at_call 132; refine (rnum_any p _ bs (hid (by (with_reducible repeat' (first | exact Hid.out (by assumption) | refine Rd.alloc ?_ _ | refine Rd.ext _ ?_ | refine Rd.drew ?_ | refine Rd.setCell ?_ (by omega) _)); first | done | fail))).go (fun n r1 v y h1 hx hR => ?_) (fun c y hr => ⟨rfl, RdOut.err (by (with_reducible repeat' (first | exact Fp.refl | exact Hid.out (by assumption) | refine Fp.alloc ?_ _ | refine fp_ext _ ?_ | refine fp_px _ ?_ | refine Fp.drew ?_ | refine Fp.setCell ?_ (.inr (by omega)) _)); first | done | fail) (Rr.bind_err hr.out)⟩); obtain ⟨rfl, l1n, l2n⟩ := hx.out; clear hx; have hs := y.size; (try simp at hs)) | fail)
  obtain ⟨N, rfl⟩ := Int.eq_ofNat_of_zero_le l1n
  have HS0 : Hid (listP f bs = withP (([] : List Int).map id) (repP f (N - 0)) r1) := hid ((Rr.bind_ok h1.out).trans (by rw [List.map_nil, withP_nil]; simp))
  clear h1
  go_loopw [5, 8] (fun o i wr => ∃ (k : Nat) (acc : List Int) (F : Nat → Prop) (r : List Int), k ≤ N ∧ acc.length = k ∧ i = .int .i64 k ∧ LInv eInt 1 3 p w o wr acc F r ∧ Hid (listP f bs = withP (acc.map id) (repP f (N - k)) r)) (fun _ i _ => N - (intOf i).toNat)
  case atStart => exact ⟨0, [], _, r1, Nat.zero_le _, rfl, rfl, LInv.start (by (with_reducible repeat' (first | exact Fp.refl | exact Hid.out (by assumption) | refine Fp.alloc ?_ _ | refine fp_ext _ ?_ | refine fp_px _ ?_ | refine Fp.drew ?_ | refine Fp.setCell ?_ (.inr (by omega)) _)); first | done | fail) hR.out, HS0⟩
  case round =>
    obtain ⟨k, acc, F, r, hk, hak, rfl, hI, HS⟩ := hrel
    have HI := hid hI
    have HA := hid hak
    have hfp := hid hI.fp
    have hRd := hid hI.rd
    have hwr := hI.fp.size
    haveI : LeW w.heap.size wr := ⟨hwr⟩
    clear hI hak
    by_cases hlt : k < N
    · obtain ⟨M, hM⟩ : ∃ M, N - k = M + 1 := ⟨N - k - 1, by omega⟩
      have HM := hid hM
      clear hM
      have hHS : Hid (listP f bs = withP (acc.map id) (repP f (M + 1)) r) := hid (by rw [← HM.out]; exact HS.out)
      have hal : acc.length ≤ 255 := by have := HA.out; omega
      go_wp2_with (first | (go_at_call 132; refine (hf.out _ r hRd.out).go (fun x r2 v y hx hrp hR2 => ?_) (fun c y hr => ⟨rfl, RdOut.err (by (with_reducible repeat' (first | exact Fp.refl | exact Hid.out (by assumption) | refine Fp.alloc ?_ _ | refine fp_ext _ ?_ | refine fp_px _ ?_ | refine Fp.drew ?_ | refine Fp.setCell ?_ (.inr (by omega)) _)); first | done | fail) (hHS.out.trans (withP_err hr.out))⟩); obtain ⟨c, G, rfl, hc, hG, hok⟩ := hrep _ _ _ _ hrp.out; have HC := hid hc; have HG := hid hG; have HOK := hid hok; clear hc hG hok hrp; have hon : Hid (y.val.ownsRow w.heap.size 3 1 u5 acc.length (acc.flatMap (El.cells eInt))) := hid (own_same HI.out.own fun b hb => y.fp.block b (HI.out.own.lt b hb).2 (by have := (HI.out.own.lt b hb).1; omega)); haveI : LeW w.heap.size y.val := ⟨Nat.le_trans hwr y.fp.size⟩) | (at_builtin; refine wpList_appL _ rfl _ _ 46 rfl w.heap.size 3 (.int .i64 0) 1 8 Tryz.underlying46 infInt rfl (by decide) u5 acc.length (acc.flatMap (El.cells eInt)) rfl hon #[.int .i64 c] _ 1 1 rfl rfl (by intro q hq; simp at hq; (repeat' (rcases hq with rfl | hq)); all_goals (first | rfl | (subst hq; rfl))) (by unfold maxLen; omega) (by omega) LeW.le ?_; intro v' w1 ho' hg hat) | fail)
      go_roundw
      case rel =>
        refine ⟨k + 1, acc ++ [c], _, r2, by omega, by have := HA.out; simp; omega, by go_num, HI.out.step hp y HG.out HOK.out hR2.out (own_eq ho'.out (by simp) (by simp [eInt])) hg.out hat.out, hid ?_⟩
        rw [hHS.out, withP_ok hx.out, List.map_append, show N - (k + 1) = M from by have := HM.out; omega, List.map_cons, List.map_nil, HC.out]
      case measure => simp [intOf]; omega
    · go_wp2_with fail
      go_ret
      obtain rfl : k = N := by omega
      refine RdOut.ret hfp.out (x := acc.map id) (rest := r) (by rw [HS.out, Nat.sub_self, withP_zero]) (HI.out.done fun x _ => rfl) hRd.out
theorem infInt2 : (Tryz.prog.info? 3).map (fun i => (i.zero, i.size, i.bytes)) = some (some (.int .i64 0), 1, 8) := by kernel_rfl
set_option maxRecDepth 20000 in
set_option maxHeartbeats 1000000 in
theorem rlist_virt (p : Nat) (w : World) (bs : List Int) (f : Rr Int) (hR : Hid (Rd p w bs)) (hrep : ∀ base W v x, RepV base W v x → RepE eInt (Value.int .i64) id base W v x)
    (hf : Hid (∀ (W : World) (cs : List Int), Rd p W cs → Parses 101 Tryz.prog 196 #[.pointer (some ⟨p, 0, none⟩)] p W (f cs) RepV)) :
    Parses 101 Tryz.prog 195 #[.pointer (some ⟨p, 0, none⟩), .func (.func 196) #[.pointer (some ⟨p, 0, none⟩)] #[]] p w (listP f bs) (RepL eInt 1 id) := by
  unfold Parses
  have hp := hR.out.1
  haveI : InW p w := ⟨hp⟩
  haveI : LeW w.heap.size w := LeW.refl
  go_enter Tryz.func195, Tryz.ntmps195
  go_wp2_with (first | (go_at_call 132; refine (rnum_any p _ bs (hid (by (with_reducible repeat' (first | exact Hid.out (by assumption) | refine Rd.alloc ?_ _ | refine Rd.ext _ ?_ | refine Rd.drew ?_ | refine Rd.setCell ?_ (by omega) _)); first | done | fail))).go (fun n r1 v y h1 hx hR => ?_) (fun c y hr => ⟨rfl, RdOut.err (by (with_reducible repeat' (first | exact Fp.refl | exact Hid.out (by assumption) | refine Fp.alloc ?_ _ | refine fp_ext _ ?_ | refine fp_px _ ?_ | refine Fp.drew ?_ | refine Fp.setCell ?_ (.inr (by omega)) _)); first | done | fail) (Rr.bind_err hr.out)⟩); obtain ⟨rfl, l1n, l2n⟩ := hx.out; clear hx; have hs := y.size; (try simp at hs)) | fail)
  obtain ⟨N, rfl⟩ := Int.eq_ofNat_of_zero_le l1n
  have HS0 : Hid (listP f bs = withP (([] : List Int).map id) (repP f (N - 0)) r1) := hid ((Rr.bind_ok h1.out).trans (by rw [List.map_nil, withP_nil]; simp))
  clear h1
  go_loopw [5, 8] (fun o i wr => ∃ (k : Nat) (acc : List Int) (F : Nat → Prop) (r : List Int), k ≤ N ∧ acc.length = k ∧ i = .int .i64 k ∧ LInv eInt 1 3 p w o wr acc F r ∧ Hid (listP f bs = withP (acc.map id) (repP f (N - k)) r)) (fun _ i _ => N - (intOf i).toNat)
  case atStart => exact ⟨0, [], _, r1, Nat.zero_le _, rfl, rfl, LInv.start (by (with_reducible repeat' (first | exact Fp.refl | exact Hid.out (by assumption) | refine Fp.alloc ?_ _ | refine fp_ext _ ?_ | refine fp_px _ ?_ | refine Fp.drew ?_ | refine Fp.setCell ?_ (.inr (by omega)) _)); first | done | fail) hR.out, HS0⟩
  case round =>
    obtain ⟨k, acc, F, r, hk, hak, rfl, hI, HS⟩ := hrel
    have HI := hid hI
    have HA := hid hak
    have hfp := hid hI.fp
    have hRd := hid hI.rd
    have hwr := hI.fp.size
    haveI : LeW w.heap.size wr := ⟨hwr⟩
    clear hI hak
    by_cases hlt : k < N
    · obtain ⟨M, hM⟩ : ∃ M, N - k = M + 1 := ⟨N - k - 1, by omega⟩
      have HM := hid hM
      clear hM
      have hHS : Hid (listP f bs = withP (acc.map id) (repP f (M + 1)) r) := hid (by rw [← HM.out]; exact HS.out)
      have hal : acc.length ≤ 255 := by have := HA.out; omega
      go_wp2_with (first | (go_at_call 196; refine (hf.out _ r hRd.out).go (fun x r2 v y hx hrp hR2 => ?_) (fun c y hr => ⟨rfl, RdOut.err (by (with_reducible repeat' (first | exact Fp.refl | exact Hid.out (by assumption) | refine Fp.alloc ?_ _ | refine fp_ext _ ?_ | refine fp_px _ ?_ | refine Fp.drew ?_ | refine Fp.setCell ?_ (.inr (by omega)) _)); first | done | fail) (hHS.out.trans (withP_err hr.out))⟩); obtain ⟨c, G, rfl, hc, hG, hok⟩ := hrep _ _ _ _ hrp.out; have HC := hid hc; have HG := hid hG; have HOK := hid hok; clear hc hG hok hrp; have hon : Hid (y.val.ownsRow w.heap.size 3 1 u5 acc.length (acc.flatMap (El.cells eInt))) := hid (own_same HI.out.own fun b hb => y.fp.block b (HI.out.own.lt b hb).2 (by have := (HI.out.own.lt b hb).1; omega)); haveI : LeW w.heap.size y.val := ⟨Nat.le_trans hwr y.fp.size⟩) | (at_builtin; refine wpList_appL _ rfl _ _ 46 rfl w.heap.size 3 (.int .i64 0) 1 8 Tryz.underlying46 infInt2 rfl (by decide) u5 acc.length (acc.flatMap (El.cells eInt)) rfl hon #[.int .i64 c] _ 1 1 rfl rfl (by intro q hq; simp at hq; (repeat' (rcases hq with rfl | hq)); all_goals (first | rfl | (subst hq; rfl))) (by unfold maxLen; omega) (by omega) LeW.le ?_; intro v' w1 ho' hg hat) | fail)
      go_roundw
      case rel =>
        refine ⟨k + 1, acc ++ [c], _, r2, by omega, by have := HA.out; simp; omega, by go_num, HI.out.step hp y HG.out HOK.out hR2.out (own_eq ho'.out (by simp) (by simp [eInt])) hg.out hat.out, hid ?_⟩
        rw [hHS.out, withP_ok hx.out, List.map_append, show N - (k + 1) = M from by have := HM.out; omega, List.map_cons, List.map_nil, HC.out]
      case measure => simp [intOf]; omega
    · go_wp2_with fail
      go_ret
      obtain rfl : k = N := by omega
      refine RdOut.ret hfp.out (x := acc.map id) (rest := r) (by rw [HS.out, Nat.sub_self, withP_zero]) (HI.out.done fun x _ => rfl) hRd.out
end Go.Proofs.YthagkijplklemaaGreatDoor
end

section
namespace Go.Proofs.YthagkijplklemaaGreatDoor
open Go.ChangeShapes Go.WideShapes Go.ChangeAt Go.RowKit Go.Sc
def Im.er (x : Im) : Im := ⟨x.i, .er x.ms.xs⟩
abbrev RepIm : Rp Im := RepE eIm Im.v Im.er
theorem rep_im {base : Nat} {w : World} {a : Rf} {s : Sl Int} {ms : List Int} (h : RepL eInt 1 id base w s.v ms) (ha : i64ok a.p ∧ i64ok a.c) : RepIm base w (.agg #[.int .i64 a.p, .int .i64 a.c, .slice s.a s.xs.length s.c]) ⟨a, .er ms⟩ := by
  obtain ⟨s2, F, h1, h2, h3, h4⟩ := h
  exact ⟨⟨a, s2⟩, F, by rw [show Value.slice s.a s.xs.length s.c = s2.v from h1], by simp [Im.er, ← h2], h3, fun w' hs hw => ⟨ha.1, ha.2, h4 w' hs hw⟩⟩
set_option maxHeartbeats 1000000 in
theorem rimpl_any (p : Nat) (w : World) (bs : List Int) (hR : Hid (Rd p w bs)) : Parses 101 Tryz.prog 198 #[.pointer (some ⟨p, 0, none⟩)] p w (implP bs) RepIm := by
  unfold Parses
  have hp := hR.out.1
  haveI : InW p w := ⟨hp⟩
  have hL : Hid (∀ (W : World) (cs : List Int), Rd p W cs → Parses 101 Tryz.prog 195 #[.pointer (some ⟨p, 0, none⟩), .func (.func 132) #[.pointer (some ⟨p, 0, none⟩)] #[]] p W (listP numP cs) (RepL eInt 1 id)) :=
    fun W cs h => rlist_num p W cs numP h (fun _ _ _ _ h => num_rep h) (fun W cs h => rnum_any p W cs h)
  go_enter Tryz.func198, Tryz.ntmps198
  go_wp2_with (first | (go_at_call 193; refine (rref_any p _ bs (hid (by (with_reducible repeat' (first | exact Hid.out (by assumption) | refine Rd.alloc ?_ _ | refine Rd.ext _ ?_ | refine Rd.drew ?_ | refine Rd.setCell ?_ (by omega) _)); first | done | fail))).go (fun x r1 v y h1 hx hR => ?_) (fun c y hr => ⟨rfl, RdOut.err (by (with_reducible repeat' (first | exact Fp.refl | exact Hid.out (by assumption) | refine Fp.alloc ?_ _ | refine fp_ext _ ?_ | refine fp_px _ ?_ | refine Fp.drew ?_ | refine Fp.setCell ?_ (.inr (by omega)) _)); first | done | fail) (Rr.bind_err hr.out)⟩); obtain ⟨a, F, rfl, hq, hF, hok⟩ := hx.out; simp only [id] at hq; subst hq; have oka := hid (hok _ (Nat.le_refl _) fun _ _ => rfl); clear hx hok hF F; have hs := y.size; (try simp at hs)) | fail)
  have hne1 : ¬ w.heap.size = y.val.heap.size := by omega
  have hne2 : ¬ y.val.heap.size = w.heap.size := by omega
  go_wp2_with (first | (go_at_call 195; refine ((hL).out _ r1 (by (with_reducible repeat' (first | exact Hid.out (by assumption) | refine Rd.alloc ?_ _ | refine Rd.ext _ ?_ | refine Rd.drew ?_ | refine Rd.setCell ?_ (by omega) _)); first | done | fail)).go (fun xs r2 v y h2 hx2 hR => ?_) (fun c y hr => ⟨rfl, RdOut.err (by (with_reducible repeat' (first | exact Fp.refl | exact Hid.out (by assumption) | refine Fp.alloc ?_ _ | refine fp_ext _ ?_ | refine fp_px _ ?_ | refine Fp.drew ?_ | refine Fp.setCell ?_ (.inr (by omega)) _)); first | done | fail) ((Rr.bind_ok h1.out).trans (Rr.bind_err hr.out))⟩); obtain ⟨s, _, rfl, _⟩ := (hx2).out; have hs := y.size; (try simp at hs)) | fail)
  go_returns
  exact RdOut.ret (by (with_reducible repeat' (first | exact Fp.refl | exact Hid.out (by assumption) | refine Fp.alloc ?_ _ | refine fp_ext _ ?_ | refine fp_px _ ?_ | refine Fp.drew ?_ | refine Fp.setCell ?_ (.inr (by omega)) _)); first | done | fail) ((Rr.bind_ok h1.out).trans (Rr.bind_ok h2.out)) (rep_im (((hx2).out.keep (by (with_reducible repeat' (first | exact Kept.refl | refine Kept.set ?_ ?_ | refine Kept.px _ ?_ ?_ | refine Kept.alloc ?_ _ | refine Kept.ext _ ?_)); (all_goals (first | omega | (simp; done) | (simp; omega))))).from_ OM) oka.out) (by (with_reducible repeat' (first | exact Hid.out (by assumption) | refine Rd.alloc ?_ _ | refine Rd.ext _ ?_ | refine Rd.drew ?_ | refine Rd.setCell ?_ (by omega) _)); first | done | fail)
end Go.Proofs.YthagkijplklemaaGreatDoor
end
