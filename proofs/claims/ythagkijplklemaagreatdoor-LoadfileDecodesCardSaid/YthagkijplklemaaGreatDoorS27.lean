/- The program's reader: wide. The program's reader: aid, imported, applet, handler. -/
import Derived.Test.YthagkijplklemaaGreatDoorS23
import Derived.BigQuiet
import Derived.Deep.QuietTactic
import Derived.Laws.BitsLemmas
import Derived.IntWalk
section
namespace Go.Proofs.YthagkijplklemaaGreatDoor
open Go.ChangeShapes Go.WideShapes Go.ChangeAt Go.RowKit Go.Sc
theorem wraps_i64 (n : Int) (h0 : 0 ≤ n) (h1 : n < 2 ^ 40) : IntKind.i64.wrap n = n := IntWalk.i64_in _ (by omega)
theorem or256 {x z : Int} (h1 : 0 ≤ x) (h2 : x ≤ 255) (h3 : 0 ≤ z) (h4 : z ≤ 255) : bits .or .i64 (x * 256) z = x * 256 + z :=
  bits_join .i64 40 (by decide) wraps_i64 8 _ _ (by omega) (by omega) (by omega) (by omega) (by omega) (by omega)
def RepW : Rp Int := fun _ _ v x => v = .int .i64 x ∧ 0 ≤ x ∧ x ≤ 65535
theorem rwide_any (p : Nat) (w : World) (bs : List Int) (hR : Hid (Rd p w bs)) : Parses 101 Tryz.prog 200 #[.pointer (some ⟨p, 0, none⟩)] p w (wideP bs) RepW := by
  unfold Parses
  by_cases hl : bs.length < 2
  · have he : Hid (wideP bs = .error 5) := by
      have : wideP bs = .error 5 := by
        match bs, hl with
        | [], _ => rfl
        | [_], _ => rfl
      exact this
    go_enter Tryz.func200, Tryz.ntmps200
    go_wp2_with (first | (go_at_call 192; refine (rbytes_any p 2 _ bs hR).go (fun x r v y hr hx hR2 => absurd hr.out (by unfold bytesP; rw [if_pos hl]; simp)) (fun c y hr => ⟨rfl, RdOut.err (by (with_reducible repeat' (first | exact Fp.refl | exact Hid.out (by assumption) | refine Fp.alloc ?_ _ | refine fp_ext _ ?_ | refine fp_px _ ?_ | refine Fp.drew ?_ | refine Fp.setCell ?_ (.inr (by omega)) _)); first | done | fail) (by have := hr.out; unfold bytesP at this; rw [if_pos hl] at this; cases this; exact he.out)⟩)) | fail)
  · obtain ⟨x, z, r, rfl⟩ : ∃ x z r, bs = x :: z :: r := by
      match bs, hl with
      | [], hl => simp at hl
      | [_], hl => simp at hl
      | x :: z :: r, _ => exact ⟨x, z, r, rfl⟩
    clear hl
    have hc : Hid (∀ W : World, Rd p W (x :: z :: r) → Calls Tryz.prog 192 #[.pointer (some ⟨p, 0, none⟩), .int .i64 2] W fun e w' => ∃ (b off c : Nat) (y : Px p W), w' = y.val ∧ e = .returned (.slice (some ⟨b, off, none⟩) 2 c) ∧ y.val.cell? ⟨b, off, none⟩ = some (.int .u8 x) ∧ y.val.cell? ⟨b, off + 1, none⟩ = some (.int .u8 z) ∧ b < y.val.heap.size ∧ 2 ≤ c ∧ Hid (0 ≤ x ∧ x ≤ 255 ∧ 0 ≤ z ∧ z ≤ 255) ∧ Hid (Rd p y.val r)) := fun W hW =>
      (rbytes_any p 2 W (x :: z :: r) hW).go (fun q rest v y hr hx hR2 => by
        have e := hr.out
        simp [bytesP] at e
        obtain ⟨rfl, rfl⟩ := e
        obtain ⟨a, c, rfl, hb, _⟩ := hx.out
        obtain ⟨h1, b, off, h2, h3, h4⟩ := hb.at_ 0 x rfl
        obtain ⟨k1, b', off', k2, _, k4⟩ := hb.at_ 1 z rfl
        simp only at h2 k2
        subst h2
        cases k2
        have hle := hb.le
        simp at hle
        exact ⟨b, off, c, y, rfl, rfl, by simpa using h4 0 _ rfl, by simpa using k4 0 _ rfl, h3, hle, ⟨h1.1, h1.2, k1.1, k1.2⟩, hR2⟩) (fun c y hr => absurd hr.out (by unfold bytesP; rw [if_neg (by simp)]; simp))
    go_enter Tryz.func200, Tryz.ntmps200
    go_wp2_with (go_at_call 192; refine (hc.out _ hR.out).mono ?_; rintro e w' ⟨b, off, c, y, rfl, rfl, h0, h1, hbl, hcc, hx, hR2⟩; have hx1 := hx.out.1; have hx2 := hx.out.2.1; have hx3 := hx.out.2.2.1; have hx4 := hx.out.2.2.2; haveI : InW b y.val := ⟨hbl⟩)
    refine wp_region_ext (by kernel_rfl) (by kernel_rfl) ?_; (repeat (go_big_quiet_step (fail))); refine wpQuiet_nil ?_; intro xw
    go_wp2_with fail
    go_ret
    exact RdOut.ret (by (with_reducible repeat' (first | exact Fp.refl | exact Hid.out (by assumption) | refine Fp.alloc ?_ _ | refine fp_ext _ ?_ | refine fp_px _ ?_ | refine Fp.drew ?_ | refine Fp.setCell ?_ (.inr (by omega)) _)); first | done | fail) rfl ⟨ret_i64 (or256 hx1 hx2 hx3 hx4), by omega, by omega⟩ (by (with_reducible repeat' (first | exact Hid.out (by assumption) | refine Rd.alloc ?_ _ | refine Rd.ext _ ?_ | refine Rd.drew ?_ | refine Rd.setCell ?_ (by omega) _)); first | done | fail)
end Go.Proofs.YthagkijplklemaaGreatDoor
end

section
namespace Go.Proofs.YthagkijplklemaaGreatDoor
open Go.ChangeShapes Go.WideShapes Go.ChangeAt Go.RowKit Go.Sc
theorem bytes_same' {w w' : World} {s : Sl Int} (h : Bytes w s) (hs : w.heap.size ≤ w'.heap.size) (hb : ∀ b o, s.a = some ⟨b, o, none⟩ → b < w.heap.size → w'.heap[b]? = w.heap[b]?) : Bytes w' s :=
  ⟨h.le, h.max, h.nil, fun k x hx => by
    obtain ⟨h1, b, off, h2, h3, h4⟩ := h.at_ k x hx
    exact ⟨h1, b, off, h2, Nat.lt_of_lt_of_le h3 hs, fun j v hv => (World.cell?_of_block (w := w) (a := ⟨b, _, none⟩) (hb b off h2 h3)).trans (h4 j v hv)⟩⟩
theorem rep_bytes {base : Nat} {w : World} {a : Option Addr} {c : Nat} {xs : List Int} (h : Bytes w ⟨a, c, xs⟩) (hf : ∀ b o q, a = some ⟨b, o, q⟩ → base ≤ b) : RepL eByte 1 id base w (.slice a xs.length c) xs :=
  ⟨⟨a, c, xs⟩, fun b => b < w.heap.size ∧ ∃ o, a = some ⟨b, o, none⟩, rfl, by simp, fun b ⟨h1, o, h2⟩ => ⟨hf b o none h2, h1⟩, fun w' hs hw => bytes_same' h hs fun b o e hb => hw b ⟨hb, o, e⟩⟩
set_option maxHeartbeats 1000000 in
theorem raid_any (p : Nat) (w : World) (bs : List Int) (hR : Hid (Rd p w bs)) : Parses 101 Tryz.prog 133 #[.pointer (some ⟨p, 0, none⟩)] p w (aidP bs) (RepL eByte 1 id) := by
  unfold Parses
  have hp := hR.out.1
  go_enter Tryz.func133, Tryz.ntmps133
  go_wp2_with (first | (go_at_call 132; refine (rnum_any p _ bs (hid (by (with_reducible repeat' (first | exact Hid.out (by assumption) | refine Rd.alloc ?_ _ | refine Rd.ext _ ?_ | refine Rd.drew ?_ | refine Rd.setCell ?_ (by omega) _)); first | done | fail))).go (fun n r1 v y h1 hx hR => ?_) (fun c y hr => ⟨rfl, RdOut.err (by (with_reducible repeat' (first | exact Fp.refl | exact Hid.out (by assumption) | refine Fp.alloc ?_ _ | refine fp_ext _ ?_ | refine fp_px _ ?_ | refine Fp.drew ?_ | refine Fp.setCell ?_ (.inr (by omega)) _)); first | done | fail) (Rr.bind_err hr.out)⟩); obtain ⟨rfl, l1n, l2n⟩ := hx.out; clear hx; have hs := y.size; (try simp at hs)) | fail)
  obtain ⟨N, rfl⟩ := Int.eq_ofNat_of_zero_le l1n
  go_wp2_with (first | (go_at_call 192; refine (rbytes_any p N _ r1 (hid (by (with_reducible repeat' (first | exact Hid.out (by assumption) | refine Rd.alloc ?_ _ | refine Rd.ext _ ?_ | refine Rd.drew ?_ | refine Rd.setCell ?_ (by omega) _)); first | done | fail))).go (fun x r2 v y h2 hx hR => ?_) (fun c y hr => ⟨rfl, RdOut.err (by (with_reducible repeat' (first | exact Fp.refl | exact Hid.out (by assumption) | refine Fp.alloc ?_ _ | refine fp_ext _ ?_ | refine fp_px _ ?_ | refine Fp.drew ?_ | refine Fp.setCell ?_ (.inr (by omega)) _)); first | done | fail) ((Rr.bind_ok h1.out).trans hr.out)⟩); obtain ⟨a, c, rfl, hb, hlt⟩ := hx.out; have hB := hid hb; have hxl : x.length ≤ 255 := (by have := h2.out; unfold bytesP at this; split at this; cases this; cases this; simp; omega); clear hx hb hlt; have hs := y.size; (try simp at hs)) | (go_at_call 91; refine (clone_any ⟨a, c, x⟩ _ hB (by simp only; omega)).go.mono ?_; rintro e w' ⟨a2, c2, q, rfl, rfl, hb2, hf2⟩) | fail)
  go_ret
  exact RdOut.ret (by (with_reducible repeat' (first | exact Fp.refl | exact Hid.out (by assumption) | refine Fp.alloc ?_ _ | refine fp_ext _ ?_ | refine fp_px _ ?_ | refine Fp.drew ?_ | refine Fp.setCell ?_ (.inr (by omega)) _)); first | done | fail) ((Rr.bind_ok h1.out).trans h2.out) (rep_bytes hb2.out fun b o q h => Nat.le_trans (by omega) (hf2.out b o q h)) (by (with_reducible repeat' (first | exact Hid.out (by assumption) | refine Rd.alloc ?_ _ | refine Rd.ext _ ?_ | refine Rd.drew ?_ | refine Rd.setCell ?_ (by omega) _)); first | done | fail)
def Ip.er (x : Ip) : Ip := ⟨.er x.aid.xs, x.major, x.minor⟩
def Ap.er (x : Ap) : Ap := ⟨.er x.aid.xs, x.cls, x.inst⟩
abbrev RepIp : Rp Ip := RepE eIp Ip.v Ip.er
abbrev RepAp : Rp Ap := RepE eAp Ap.v Ap.er
theorem rep_ip {base : Nat} {w : World} {a b : Int} {s : Sl Int} {xs : List Int} (h : RepL eByte 1 id base w s.v xs) (h1 : 0 ≤ a) (h2 : a ≤ 255) (h3 : 0 ≤ b) (h4 : b ≤ 255) : RepIp base w (.agg #[.slice s.a s.xs.length s.c, .int .i64 a, .int .i64 b]) ⟨.er xs, a, b⟩ := by
  obtain ⟨s2, F, e1, e2, e3, e4⟩ := h
  exact ⟨⟨s2, a, b⟩, F, by rw [show Value.slice s.a s.xs.length s.c = s2.v from e1], by simp [Ip.er, ← e2], e3, fun w' hs hw => ⟨e4 w' hs hw, i64_byte h1 h2, i64_byte h3 h4⟩⟩
theorem rep_ap {base : Nat} {w : World} {a b : Int} {s : Sl Int} {xs : List Int} (h : RepL eByte 1 id base w s.v xs) (h1 : 0 ≤ a) (h2 : a ≤ 255) (h3 : 0 ≤ b) (h4 : b ≤ 255) : RepAp base w (.agg #[.slice s.a s.xs.length s.c, .int .i64 a, .int .i64 b]) ⟨.er xs, a, b⟩ := by
  obtain ⟨s2, F, e1, e2, e3, e4⟩ := h
  exact ⟨⟨s2, a, b⟩, F, by rw [show Value.slice s.a s.xs.length s.c = s2.v from e1], by simp [Ap.er, ← e2], e3, fun w' hs hw => ⟨e4 w' hs hw, i64_byte h1 h2, i64_byte h3 h4⟩⟩
set_option maxHeartbeats 1000000 in
theorem rimp_any (p : Nat) (w : World) (bs : List Int) (hR : Hid (Rd p w bs)) : Parses 101 Tryz.prog 135 #[.pointer (some ⟨p, 0, none⟩)] p w (ipP bs) RepIp := by
  unfold Parses
  have hp := hR.out.1
  haveI : InW p w := ⟨hp⟩
  go_enter Tryz.func135, Tryz.ntmps135
  go_wp2_with (first | (go_at_call 133; refine (raid_any p _ bs (hid (by (with_reducible repeat' (first | exact Hid.out (by assumption) | refine Rd.alloc ?_ _ | refine Rd.ext _ ?_ | refine Rd.drew ?_ | refine Rd.setCell ?_ (by omega) _)); first | done | fail))).go (fun xs r1 v y h1 hx1 hR => ?_) (fun c y hr => ⟨rfl, RdOut.err (by (with_reducible repeat' (first | exact Fp.refl | exact Hid.out (by assumption) | refine Fp.alloc ?_ _ | refine fp_ext _ ?_ | refine fp_px _ ?_ | refine Fp.drew ?_ | refine Fp.setCell ?_ (.inr (by omega)) _)); first | done | fail) (Rr.bind_err hr.out)⟩); obtain ⟨s, _, rfl, _⟩ := (hx1).out; have hs := y.size; (try simp at hs)) | fail)
  have hne1 : ¬ w.heap.size = y.val.heap.size := by omega
  have hne2 : ¬ y.val.heap.size = w.heap.size := by omega
  obtain ⟨b, hb⟩ : ∃ b, b = y.val.heap.size := ⟨_, rfl⟩
  go_wp2_with (first | (go_at_call 132; refine (rnum_any p _ r1 (hid (by (with_reducible repeat' (first | exact Hid.out (by assumption) | refine Rd.alloc ?_ _ | refine Rd.ext _ ?_ | refine Rd.drew ?_ | refine Rd.setCell ?_ (by omega) _)); first | done | fail))).go (fun n r2 v y h2 hx hR => ?_) (fun c y hr => ⟨rfl, RdOut.err (by (with_reducible repeat' (first | exact Fp.refl | exact Hid.out (by assumption) | refine Fp.alloc ?_ _ | refine fp_ext _ ?_ | refine fp_px _ ?_ | refine Fp.drew ?_ | refine Fp.setCell ?_ (.inr (by omega)) _)); first | done | fail) ((Rr.bind_ok h1.out).trans (Rr.bind_err hr.out))⟩); obtain ⟨rfl, l1n, l2n⟩ := hx.out; clear hx; have hs := y.size; (try simp at hs)) | fail)
  go_wp2_with (first | (go_at_call 132; refine (rnum_any p _ r2 (hid (by (with_reducible repeat' (first | exact Hid.out (by assumption) | refine Rd.alloc ?_ _ | refine Rd.ext _ ?_ | refine Rd.drew ?_ | refine Rd.setCell ?_ (by omega) _)); first | done | fail))).go (fun m r3 v y h3 hx hR => ?_) (fun c y hr => ⟨rfl, RdOut.err (by (with_reducible repeat' (first | exact Fp.refl | exact Hid.out (by assumption) | refine Fp.alloc ?_ _ | refine fp_ext _ ?_ | refine fp_px _ ?_ | refine Fp.drew ?_ | refine Fp.setCell ?_ (.inr (by omega)) _)); first | done | fail) ((Rr.bind_ok h1.out).trans ((Rr.bind_ok h2.out).trans (Rr.bind_err hr.out)))⟩); obtain ⟨rfl, l1m, l2m⟩ := hx.out; clear hx; have hs := y.size; (try simp at hs)) | fail)
  go_returns
  exact RdOut.ret (by (with_reducible repeat' (first | exact Fp.refl | exact Hid.out (by assumption) | refine Fp.alloc ?_ _ | refine fp_ext _ ?_ | refine fp_px _ ?_ | refine Fp.drew ?_ | refine Fp.setCell ?_ (.inr (by omega)) _)); first | done | fail) ((Rr.bind_ok h1.out).trans ((Rr.bind_ok h2.out).trans (Rr.bind_ok h3.out))) (rep_ip (((hx1).out.keep (by (with_reducible repeat' (first | exact Kept.refl | refine Kept.set ?_ ?_ | refine Kept.px _ ?_ ?_ | refine Kept.alloc ?_ _ | refine Kept.ext _ ?_)); (all_goals (first | omega | (simp; done) | (simp; omega))))).from_ OM) l1n l2n l1m l2m) (by (with_reducible repeat' (first | exact Hid.out (by assumption) | refine Rd.alloc ?_ _ | refine Rd.ext _ ?_ | refine Rd.drew ?_ | refine Rd.setCell ?_ (by omega) _)); first | done | fail)
set_option maxHeartbeats 1000000 in
theorem rapp_any (p : Nat) (w : World) (bs : List Int) (hR : Hid (Rd p w bs)) : Parses 101 Tryz.prog 143 #[.pointer (some ⟨p, 0, none⟩)] p w (apP bs) RepAp := by
  unfold Parses
  have hp := hR.out.1
  haveI : InW p w := ⟨hp⟩
  go_enter Tryz.func143, Tryz.ntmps143
  go_wp2_with (first | (go_at_call 133; refine (raid_any p _ bs (hid (by (with_reducible repeat' (first | exact Hid.out (by assumption) | refine Rd.alloc ?_ _ | refine Rd.ext _ ?_ | refine Rd.drew ?_ | refine Rd.setCell ?_ (by omega) _)); first | done | fail))).go (fun xs r1 v y h1 hx1 hR => ?_) (fun c y hr => ⟨rfl, RdOut.err (by (with_reducible repeat' (first | exact Fp.refl | exact Hid.out (by assumption) | refine Fp.alloc ?_ _ | refine fp_ext _ ?_ | refine fp_px _ ?_ | refine Fp.drew ?_ | refine Fp.setCell ?_ (.inr (by omega)) _)); first | done | fail) (Rr.bind_err hr.out)⟩); obtain ⟨s, _, rfl, _⟩ := (hx1).out; have hs := y.size; (try simp at hs)) | fail)
  have hne1 : ¬ w.heap.size = y.val.heap.size := by omega
  have hne2 : ¬ y.val.heap.size = w.heap.size := by omega
  obtain ⟨b, hb⟩ : ∃ b, b = y.val.heap.size := ⟨_, rfl⟩
  go_wp2_with (first | (go_at_call 132; refine (rnum_any p _ r1 (hid (by (with_reducible repeat' (first | exact Hid.out (by assumption) | refine Rd.alloc ?_ _ | refine Rd.ext _ ?_ | refine Rd.drew ?_ | refine Rd.setCell ?_ (by omega) _)); first | done | fail))).go (fun n r2 v y h2 hx hR => ?_) (fun c y hr => ⟨rfl, RdOut.err (by (with_reducible repeat' (first | exact Fp.refl | exact Hid.out (by assumption) | refine Fp.alloc ?_ _ | refine fp_ext _ ?_ | refine fp_px _ ?_ | refine Fp.drew ?_ | refine Fp.setCell ?_ (.inr (by omega)) _)); first | done | fail) ((Rr.bind_ok h1.out).trans (Rr.bind_err hr.out))⟩); obtain ⟨rfl, l1n, l2n⟩ := hx.out; clear hx; have hs := y.size; (try simp at hs)) | fail)
  go_wp2_with (first | (go_at_call 132; refine (rnum_any p _ r2 (hid (by (with_reducible repeat' (first | exact Hid.out (by assumption) | refine Rd.alloc ?_ _ | refine Rd.ext _ ?_ | refine Rd.drew ?_ | refine Rd.setCell ?_ (by omega) _)); first | done | fail))).go (fun m r3 v y h3 hx hR => ?_) (fun c y hr => ⟨rfl, RdOut.err (by (with_reducible repeat' (first | exact Fp.refl | exact Hid.out (by assumption) | refine Fp.alloc ?_ _ | refine fp_ext _ ?_ | refine fp_px _ ?_ | refine Fp.drew ?_ | refine Fp.setCell ?_ (.inr (by omega)) _)); first | done | fail) ((Rr.bind_ok h1.out).trans ((Rr.bind_ok h2.out).trans (Rr.bind_err hr.out)))⟩); obtain ⟨rfl, l1m, l2m⟩ := hx.out; clear hx; have hs := y.size; (try simp at hs)) | fail)
  go_returns
  exact RdOut.ret (by (with_reducible repeat' (first | exact Fp.refl | exact Hid.out (by assumption) | refine Fp.alloc ?_ _ | refine fp_ext _ ?_ | refine fp_px _ ?_ | refine Fp.drew ?_ | refine Fp.setCell ?_ (.inr (by omega)) _)); first | done | fail) ((Rr.bind_ok h1.out).trans ((Rr.bind_ok h2.out).trans (Rr.bind_ok h3.out))) (rep_ap (((hx1).out.keep (by (with_reducible repeat' (first | exact Kept.refl | refine Kept.set ?_ ?_ | refine Kept.px _ ?_ ?_ | refine Kept.alloc ?_ _ | refine Kept.ext _ ?_)); (all_goals (first | omega | (simp; done) | (simp; omega))))).from_ OM) l1n l2n l1m l2m) (by (with_reducible repeat' (first | exact Hid.out (by assumption) | refine Rd.alloc ?_ _ | refine Rd.ext _ ?_ | refine Rd.drew ?_ | refine Rd.setCell ?_ (by omega) _)); first | done | fail)
end Go.Proofs.YthagkijplklemaaGreatDoor
end
