/- The reference's reader: fail, bytes, number, name. The reference's reader: references, types. The reference's reader: lists of types, of numbers. -/
import Derived.Test.YthagkijplklemaaGreatDoorS20
import Derived.Test.YthagkijplklemaaGreatDoorS27
import Derived.Test.YthagkijplklemaaGreatDoorS22
import Derived.Test.YthagkijplklemaaGreatDoorS40
import Derived.Laws.MakeOwn
import Derived.BigQuiet
import Derived.BigGuardPart
import Derived.IntWalk
import Derived.Test.YthagkijplklemaaGreatDoorS23
section
namespace Go.Proofs.YthagkijplklemaaGreatDoor
open Go.ChangeShapes Go.WideShapes Go.ChangeAt Go.RowKit Go.Sc
def FailOut (p : Nat) (w : World) (bs : List Int) (a : Nat) (e c : Int) (en : Ending) (w' : World) : Prop :=
  en = .returned (.tuple #[]) ∧ ∃ (y : Px p w) (e' : Int), w' = y.val ∧ e' = (if e = 0 then c else e) ∧ Hid (Rs p y.val bs a e')
theorem jfail_any (p : Nat) (w : World) (bs : List Int) (a : Nat) (e c : Int) (hR : Hid (Rs p w bs a e)) : Calls Tryz.prog 40 #[.pointer (some ⟨p, 0, none⟩), .int .i64 c] w (FailOut p w bs a e c) := by
  have hp := hR.out.lt
  have h2 := hR.out.err
  have hf := hR.out.fz 2
  by_cases he : e = 0
  · have hz : (e == 0) = true := by simp [he]
    have HE := hid he
    clear he
    go_enter Tryz.func40, Tryz.ntmps40
    go_wp2_with fail
    go_end0
    exact ⟨rfl, ⟨_, Fp.refl.setCell (.inl rfl) _⟩, c, rfl, (if_pos HE.out).symm, hR.out.set2⟩
  · have hz : (e == 0) = false := by simp [he]
    have HE := hid he
    clear he
    go_enter Tryz.func40, Tryz.ntmps40
    go_wp2_with fail
    go_end0
    exact ⟨rfl, ⟨w, Fp.refl⟩, e, rfl, (if_neg HE.out).symm, hR⟩
abbrev RepBy (n : Nat) : Rp (List Int) := fun base w v x => RepL eByte 1 id base w v x ∧ x.length = n
theorem made_bytes (n : Nat) : madeCells #[Value.int .u8 0] (n * 1) = ((List.replicate n (0 : Int)).map (Value.int .u8)).toArray := by
  apply Array.ext'
  rw [toList_madeCells_one]
  simp
theorem slice_mid (s : Sl Int) (lo k : Nat) (h : lo + k ≤ s.xs.length) (hm : s.xs.length ≤ s.c) : ∃ (A : Option Addr) (C : Nat), (∀ W : World, (Instr.sliceAt 22 (.slice s.a s.xs.length s.c) (some (.int .i64 (lo : Int))) (some (.int .i64 ((lo : Int) + (k : Int)))) none).run Tryz.prog W = .ok (.slice A k C) W) ∧ ∀ W : World, Bytes W s → Bytes W ⟨A, C, (s.xs.drop lo).take k⟩ := by
  obtain ⟨a, c, xs⟩ := s
  simp only at h hm
  have h2 : (lo : Int) ≤ (lo : Int) + (k : Int) := by omega
  have h4 : ((lo : Int) + (k : Int)).toNat = lo + k := by omega
  have h5 : (lo : Int) + (k : Int) ≤ (c : Int) := by omega
  by_cases hc : c = lo
  · obtain rfl : k = 0 := by omega
    refine ⟨a, 0, fun W => ?_, fun W hb => ?_⟩
    · simp [go_sem, hc]
    · have hd : (xs.drop lo).take 0 = [] := by simp
      rw [hd]
      exact ⟨by simp, by simp, fun _ => rfl, fun j x hx => by simp at hx⟩
  · refine ⟨a.map (·.add lo), c - lo, fun W => ?_, fun W hb => ?_⟩
    · simp [go_sem, hc, h2, h4, h5]
    · have hd := bytes_drop hb (k := lo) (by omega)
      refine ⟨by simp; omega, hd.max, hd.nil, fun j x hx => hd.at_ j x ?_⟩
      simp only [List.getElem?_take] at hx
      split at hx
      · exact hx
      · cases hx
theorem make_bytes (k : Nat) (hk : k ≤ 65535) (W : World) : (Instr.makeSlice 22 (.int .i64 (k : Int)) (.int .i64 (k : Int))).run Tryz.prog W = .ok (.slice (some ⟨W.heap.size, 0, none⟩) k k) (W.alloc (.cells ((List.replicate k (0 : Int)).map (Value.int .u8)).toArray 5)) := by
  have h := infU8
  rw [Option.map_eq_some_iff] at h
  obtain ⟨i, hi, he⟩ := h
  simp only [Prod.mk.injEq] at he
  obtain ⟨hz, hs, hb⟩ := he
  have := run_make (P := Tryz.prog) (w := W) 22 5 i (.int .u8 0) Tryz.underlying22 hi hz .i64 .i64 (k : Int) (k : Int) (by omega) (by omega) (by rw [hb]; omega) (by omega)
  rw [this, hs, ← made_bytes]
  simp [Value.cells]
set_option maxRecDepth 100000 in
set_option maxHeartbeats 1000000 in
set_option maxRecDepth 100000 in
theorem jbytes_any (p k : Nat) (w : World) (bs : List Int) (a : Nat) (e : Int) (hk : k ≤ 65535) (hR : Hid (Rs p w bs a e)) : Reads Tryz.prog 144 #[.pointer (some ⟨p, 0, none⟩), .int .i64 k] p w bs a e (bytesP k) (RepBy k) := by
  unfold Reads
  obtain ⟨hlt, -, ⟨A, C, h0, hb, hbp⟩, h1, h2, hle, hlen⟩ := hR.out
  have hf1 := hR.out.fz 1
  haveI : InW p w := ⟨hlt⟩
  have hbl := hb.le
  have hbm := hb.max
  simp only at hbl hbm
  have hmk := make_bytes k hk
  have hz : Hid (∀ W : World, w.heap.size ≤ W.heap.size → RepBy k w.heap.size (W.alloc (.cells ((List.replicate k (0 : Int)).map (Value.int .u8)).toArray 5)) (.slice (some ⟨W.heap.size, 0, none⟩) k k) (List.replicate k 0)) := hid fun W hW => by
    have hq := bytes_new W (List.replicate k 0) 5 _ rfl (by intro x hx; rw [List.eq_of_mem_replicate hx]; unfold byt; omega) (by simp; omega)
    refine ⟨?_, by simp⟩
    have := rep_bytes (base := w.heap.size) hq (fun b o q h => by cases h; exact hW)
    simpa using this
  obtain ⟨us, hus⟩ : ∃ us, us = ((List.replicate k (0 : Int)).map (Value.int .u8)).toArray := ⟨_, rfl⟩
  rw [← hus] at hmk hz
  clear hus
  by_cases he : e = 0
  · subst he
    by_cases hs : bs.length < a + k
    · have hg : decide ((bs.length : Int) < (a : Int) + (k : Int)) = true := by simp; omega
      have hP : Hid (∀ (x : List Int), Post (bytesP k) bs a 0 x a 5) := hid fun x => by
        have hE : bytesP k (bs.drop a) = .error 5 := by unfold bytesP; rw [if_pos (by simp; omega)]
        exact ⟨fun h => absurd rfl h, fun y r _ h => by (rw [hE] at h; cases h), fun c _ h => by rw [hE] at h; cases h; exact ⟨rfl, by omega⟩⟩
      clear hb hbp
      have hsum : IntKind.i64.wrap ((a : Int) + (k : Int)) = (a : Int) + (k : Int) := IntWalk.i64_in _ (by omega)
      go_enter Tryz.func144, Tryz.ntmps144
      go_wp2_with fail
      refine wp_region_ext (by kernel_rfl) (by kernel_rfl) ?_; (repeat (go_big_quiet_step (fail))); refine wpQuiet_nil ?_; intro xw
      go_wp2_with (first | (go_at_call 40; refine (jfail_any p _ bs a 0 5 (hid (by (with_reducible repeat' (first | exact Hid.out (by assumption) | refine Rs.alloc ?_ _ | refine Rs.ext _ ?_ | refine Rs.drew ?_ | refine Rs.setCell ?_ (by omega) _)); first | done | fail))).mono ?_; intro en w' hF; obtain ⟨rfl, y, e2, rfl, he2, hR2⟩ := hF; obtain rfl : e2 = 5 := (by simpa using he2); clear he2; have hR3 := hR2.out; have h2y := hR3.err) | fail)
      go_ret
      exact OutR.ret (fp_px y (fp_ext xw Fp.refl) |>.alloc _) (hz.out y.val (Nat.le_trans xw.size y.size)) (hR3.alloc _) (hP.out _)
    · have hg : decide ((bs.length : Int) < (a : Int) + (k : Int)) = false := by simp; omega
      have hsum : IntKind.i64.wrap ((a : Int) + (k : Int)) = (a : Int) + (k : Int) := IntWalk.i64_in _ (by omega)
      obtain ⟨A', C', hsl, hB'⟩ := slice_mid ⟨A, C, bs⟩ a k (by simp only; omega) hbl
      simp only at hsl hB'
      have hP : Hid (Post (bytesP k) bs a 0 ((bs.drop a).take k) (a + k) 0) := hid (by
        have hE : bytesP k (bs.drop a) = .ok ((bs.drop a).take k, bs.drop (a + k)) := by unfold bytesP; rw [if_neg (by simp; omega), List.drop_drop]
        exact ⟨fun h => absurd rfl h, fun y r _ h => by (rw [hE] at h; cases h; exact ⟨rfl, rfl, rfl⟩), fun c _ h => by rw [hE] at h; cases h⟩)
      have hx : Hid (Bytes w ⟨A', C', (bs.drop a).take k⟩) := hid (hB' w hb)
      have hxl : ((bs.drop a).take k).length = k := by rw [List.length_take, List.length_drop]; omega
      obtain ⟨xs, hxs⟩ : ∃ xs, xs = (bs.drop a).take k := ⟨_, rfl⟩
      rw [← hxs] at hP hx hxl
      have HL := hid hxl
      have hxm : xs.length ≤ 65535 := by omega
      clear hb hbp hB' hxs hxl
      go_enter Tryz.func144, Tryz.ntmps144
      go_wp2_with fail
      refine wp_region_ext (by kernel_rfl) (by kernel_rfl) ?_; (repeat (go_big_quiet_step (fail))); refine wpQuiet_nil ?_; intro xw
      go_wp2_with fail
      have e0 := (Ext.cell xw p 0).trans h0
      have e1 := (Ext.cell xw p 1).trans h1
      have a0 : (0 : Int) ≤ (a : Int) := by omega
      have a1 : (0 : Int) ≤ (a : Int) + (k : Int) := by omega
      have hxx := hid (Sl.Ok.mono hx.out (show Below w.heap.size w xw.val from xw.below))
      obtain ⟨B, hB⟩ : ∃ B, B = w.heap.size := ⟨_, rfl⟩
      haveI : LeW B w := ⟨by omega⟩
      haveI : Lt p B := ⟨by omega⟩
      have hO : Hid (∀ (W : World) (b : Nat), b = W.heap.size → B ≤ W.heap.size → (W.alloc (.cells #[] 5)).ownsRow B 5 1 (.slice (some ⟨b, 0, none⟩) 0 0) ([] : List Int).length (vU [])) := hid fun W b hb h => by subst hb; exact own_lit W B [] h (by simp)
      go_region_held3 (fun w' => w'.cell? ⟨p, 0, none⟩ = some (.slice A bs.length C) ∧ w'.cell? ⟨p, 1, none⟩ = some (.int .i64 a)) (first | exact ⟨e0, e1⟩ | (go_keep; done) | ((try dsimp only); refine ⟨?_, ?_⟩ <;> first | (simp [alloc_cell_in, Gx.cell, e0, e1]; done))) (first | (refine step_apC _ (by rfl) _ _ (by rfl) B (.slice (some ⟨xw.val.heap.size, 0, none⟩) 0 0) ([]) (by rfl) (xs) k _ _ (by rfl) (by first | rfl | assumption | simp) (hid (hO.out _ _ (by simp) LeW.le)) (hid (by (repeat' (first | (with_reducible exact Hid.out (by assumption)) | exact lit1 _ _ _ _ (by first | rfl | (simp; done)) | exact lit2 _ _ _ _ _ (by first | rfl | (simp; done)) | exact lit3 _ _ _ _ _ _ (by first | rfl | (simp; done)) | (with_reducible refine byt_alloc ?_ _) | (with_reducible refine byt_ext _ ?_) | (with_reducible refine byt_drew ?_))); first | done | fail)) OM LeW.le ?_; intro v1 y1 hy1 hk1; have sy1 := y1.size; (try simp at sy1)) | fail)
      obtain ⟨x2, hx2⟩ : ∃ x2 : Ext w, x2.val = y1.val := ⟨⟨y1.val, by
        have h1 : Below B w (xw.val.alloc (.cells #[] 5)).drew := ((Below.mono xw.below (by omega)).alloc (by rw [hB]; exact xw.size) _).drew
        have h2 := h1.trans (y1.gr.below (by have := xw.size; simp; omega))
        rw [← hB]
        exact h2⟩, rfl⟩
      rw [← hx2] at hy1 ⊢
      rename_i hHeld
      clear hx2 hHeld hk1 hO e0 e1
      obtain ⟨A2, C2, rfl, hb2, hf2⟩ := own_sl hy1.out (by rw [List.nil_append]; exact hx.out.range)
      have hR2 := hR.out.ext x2
      simp only [List.nil_append] at hb2
      have f1 := hR2.fz 1
      have q1 := hR2.at_
      have HB2 := hid hb2
      have HF2 := hid hf2
      have HR2 := hid hR2
      clear hR2 hb2 hf2
      go_wp2_with fail
      go_ret
      refine OutR.ret (Fp.setCell (Fp.of_below x2.below) (.inl rfl) _) ⟨RepL.set (rep_bytes HB2.out fun b o q h => by rw [← hB]; exact (HF2.out b o q h).1) hlt, HL.out⟩ ?_ hP.out
      have := HR2.out.set1 (a' := a + k) (by omega)
      rw [show (((a + k : Nat)) : Int) = (a : Int) + (k : Int) by omega] at this
      exact this
  · have hg : (e == 0) = false := by simp [he]
    have hn : (e != 0) = true := by simp [he]
    have HE := hid he
    clear hb hbp he
    go_enter Tryz.func144, Tryz.ntmps144
    go_wp2_with fail
    refine wp_region_ext (by kernel_rfl) (by kernel_rfl) ?_; (repeat (go_big_quiet_step (fail))); refine wpQuiet_nil ?_; intro xw
    go_wp2_with fail
    go_ret
    exact OutR.ret ((fp_ext xw Fp.refl).alloc _) (hz.out xw.val xw.size) ((hR.out.ext xw).alloc _) ⟨fun _ => rfl, fun y r h0 _ => absurd h0 HE.out, fun c h0 _ => absurd h0 HE.out⟩
def valL (l : List Int) : Int := l.foldl (fun x y => 256 * x + y) 0
theorem valL_snoc (l : List Int) (y : Int) : valL (l ++ [y]) = 256 * valL l + y := by simp [valL]
def numN (n : Nat) : Rr Int := (bytesP n).bind fun l => Rr.pure (valL l)
theorem numN_one : numN 1 = numP := by
  funext b
  cases b with
  | nil => rfl
  | cons x r => simp [numN, numP, bytesP, Rr.bind, Rr.pure, valL]
theorem numN_two : numN 2 = wideP := by
  funext b
  match b with
  | [] => rfl
  | [x] => rfl
  | x :: y :: r =>
    have e : 256 * (256 * 0 + x) + y = x * 256 + y := by omega
    show Except.ok (256 * (256 * 0 + x) + y, r) = Except.ok (x * 256 + y, r)
    rw [e]
theorem valL_bd : ∀ (k : Nat) (l : List Int), l.length = k → (∀ x ∈ l, 0 ≤ x ∧ x ≤ 255) → k ≤ 2 → 0 ≤ valL l ∧ valL l ≤ 65535 ∧ (k ≤ 1 → valL l ≤ 255)
  | 0, [], _, _, _ => by simp [valL]
  | 1, [x], _, h, _ => by have := h x (by simp); simp [valL]; omega
  | 2, [x, y], _, h, _ => by have := h x (by simp); have := h y (by simp); simp [valL]; omega
abbrev RepU (n : Nat) : Rp Int := fun _ _ v x => v = .int .i64 x ∧ 0 ≤ x ∧ x ≤ 65535 ∧ (n ≤ 1 → x ≤ 255)
set_option maxRecDepth 100000 in
set_option maxHeartbeats 1000000 in
theorem jnumN_any (p n : Nat) (w : World) (bs : List Int) (a : Nat) (e : Int) (hn : n ≤ 2) (hR : Hid (Rs p w bs a e)) : Reads Tryz.prog 75 #[.pointer (some ⟨p, 0, none⟩), .int .i64 n] p w bs a e (numN n) (RepU n) := by
  unfold Reads
  have hlt := hR.out.lt
  haveI : InW p w := ⟨hlt⟩
  have hB := hid (fun W (h : Hid (Rs p W bs a e)) => jbytes_any p n W bs a e (by omega) h)
  go_enter Tryz.func75, Tryz.ntmps75
  go_wp2_with (first | (go_at_call 144; refine (hB.out _ hR).go (fun xs a' e' v y hx hR2 hP => ?_); obtain ⟨⟨s, F, rfl, hq, -, hok⟩, hl⟩ := hx.out; simp only [List.map_id] at hq; subst hq; have HS := hid (hok _ (Nat.le_refl _) fun _ _ => rfl); have HL := hid hl; clear hx hok hl F; obtain ⟨sa, sc, ss⟩ := s; dsimp only [Sl.v]) | fail)
  have hle := HS.out.le
  have hmx := HS.out.max
  have hln : ss.length ≤ 2 := by have := HL.out; (try simp only at this); omega
  simp only at hle hmx
  go_loopw [6, 7] (fun x i wr => ∃ k : Nat, k ≤ n ∧ i = .int .i64 k ∧ x = .int .i64 (valL (ss.take k)) ∧ wr = y.val) (fun _ i _ => n - (intOf i).toNat)
  case atStart => exact ⟨0, Nat.zero_le _, rfl, rfl, rfl⟩
  case round =>
    obtain ⟨k, hk, rfl, rfl, rfl⟩ := hrel
    have hbr := (show Bytes y.val ⟨sa, sc, ss⟩ from HS.out).range
    simp only at hbr
    have hbd := valL_bd k (ss.take k) (by have := HL.out; (try simp only at this); rw [List.length_take]; omega) (fun x hx => hbr x (List.mem_of_mem_take hx)) (by omega)
    by_cases hlt2 : k < n
    · obtain ⟨z, hz⟩ := getElem?_of_lt (show k < ss.length by have := HL.out; (try simp only at this); omega)
      obtain ⟨⟨z1, z2⟩, b, off, hba, hbl, hc⟩ := HS.out.at_ k z hz
      simp only at hba
      subst hba
      have h0 : y.val.cell? ⟨b, off + k, none⟩ = some (.int .u8 z) := by have := hc 0 _ rfl; simpa using this
      have hsn := hid (show valL (ss.take (k + 1)) = 256 * valL (ss.take k) + z by rw [List.take_add_one, hz]; exact valL_snoc _ _)
      obtain ⟨x, hx⟩ : ∃ x, x = valL (ss.take k) := ⟨_, rfl⟩
      rw [← hx] at hbd hsn ⊢
      obtain ⟨b1, b2, -⟩ := hbd
      have hk1 : (0 : Int) ≤ (k : Int) := by omega
      have hk2 : (k : Int) < (ss.length : Int) := by have := HL.out; (try simp only at this); omega
      clear hc hz hx hbr
      go_wp2_with fail
      go_roundw
      case rel => exact ⟨k + 1, by omega, by go_num, by rw [hsn.out], by trivial⟩
      case measure => simp [intOf]; omega
    · obtain rfl : k = n := by omega
      go_wp2_with fail
      go_ret
      have hE : ss.take k = ss := List.take_of_length_le (by have := HL.out; (try simp only at this); omega)
      rw [hE] at hbd ⊢
      exact OutR.ret (fp_px y Fp.refl) ⟨rfl, hbd⟩ hR2.out (hP.out.bind (.pure _))
theorem reads_conv {α : Type} {f : FuncId} {args : Array Value} {p : Nat} {w : World} {bs : List Int} {a : Nat} {e : Int} {P Q : Rr α} {rep rep' : Rp α} (h : Reads Tryz.prog f args p w bs a e P rep) (hP : P = Q) (hr : ∀ base W v x, rep base W v x → rep' base W v x) : Reads Tryz.prog f args p w bs a e Q rep' :=
  h.mono fun _ _ ⟨hf, v, x, a', e', he, hx, hR, hP'⟩ => ⟨hf, v, x, a', e', he, hr _ _ _ _ hx, hR, hP ▸ hP'⟩
theorem jnum_any (p : Nat) (w : World) (bs : List Int) (a : Nat) (e : Int) (hR : Hid (Rs p w bs a e)) : Reads Tryz.prog 75 #[.pointer (some ⟨p, 0, none⟩), .int .i64 1] p w bs a e numP RepN :=
  reads_conv (jnumN_any p 1 w bs a e (by omega) hR) numN_one fun _ _ _ _ h => ⟨h.1, h.2.1, h.2.2.2 (by omega)⟩
abbrev RepD : Rp Int := fun _ _ v x => v = .int .i64 x ∧ 0 ≤ x ∧ x ≤ 65535
theorem jwide_any (p : Nat) (w : World) (bs : List Int) (a : Nat) (e : Int) (hR : Hid (Rs p w bs a e)) : Reads Tryz.prog 75 #[.pointer (some ⟨p, 0, none⟩), .int .i64 2] p w bs a e wideP RepD :=
  reads_conv (jnumN_any p 2 w bs a e (by omega) hR) numN_two fun _ _ _ _ h => ⟨h.1, h.2.1, h.2.2.1⟩
end Go.Proofs.YthagkijplklemaaGreatDoor
end

section
namespace Go.Proofs.YthagkijplklemaaGreatDoor
open Go.ChangeShapes Go.WideShapes Go.ChangeAt Go.RowKit Go.Sc
theorem jref_any (p : Nat) (w : World) (bs : List Int) (a : Nat) (e : Int) (hR : Hid (Rs p w bs a e)) : Reads Tryz.prog 145 #[.pointer (some ⟨p, 0, none⟩)] p w bs a e refP RepRf := by
  unfold Reads
  have hp := hR.out.lt
  haveI : InW p w := ⟨hp⟩
  go_enter Tryz.func145, Tryz.ntmps145
  go_wp2_with (first | (go_at_call 75; refine (jnum_any p _ bs a e (hid (by (with_reducible repeat' (first | exact Hid.out (by assumption) | refine Rs.alloc ?_ _ | refine Rs.ext _ ?_ | refine Rs.drew ?_ | refine Rs.setCell ?_ (by omega) _)); first | done | fail))).go (fun n a1 e1 v y hx hR h1 => ?_); obtain ⟨rfl, l1n, l2n⟩ := hx.out; clear hx; have hs := y.size; (try simp at hs)) | fail)
  go_wp2_with (first | (go_at_call 75; refine (jnum_any p _ bs a1 e1 (hid (by (with_reducible repeat' (first | exact Hid.out (by assumption) | refine Rs.alloc ?_ _ | refine Rs.ext _ ?_ | refine Rs.drew ?_ | refine Rs.setCell ?_ (by omega) _)); first | done | fail))).go (fun m a2 e2 v y hx hR h2 => ?_); obtain ⟨rfl, l1m, l2m⟩ := hx.out; clear hx; have hs := y.size; (try simp at hs)) | fail)
  go_returns
  exact OutR.ret (by (with_reducible repeat' (first | exact Fp.refl | exact Hid.out (by assumption) | refine Fp.alloc ?_ _ | refine fp_ext _ ?_ | refine fp_px _ ?_ | refine Fp.drew ?_ | refine Fp.setCell ?_ (.inr (by omega)) _)); first | done | fail) (rep_rf l1n l2n l1m l2m) (by (with_reducible repeat' (first | exact Hid.out (by assumption) | refine Rs.alloc ?_ _ | refine Rs.ext _ ?_ | refine Rs.drew ?_ | refine Rs.setCell ?_ (by omega) _)); first | done | fail) (h1.out.bind (h2.out.bind (.pure _)))
set_option maxHeartbeats 1000000 in
theorem jone_any (p : Nat) (w : World) (bs : List Int) (a : Nat) (e : Int) (hR : Hid (Rs p w bs a e)) : Reads Tryz.prog 147 #[.pointer (some ⟨p, 0, none⟩)] p w bs a e typP RepTy := by
  unfold Reads
  have hp := hR.out.lt
  haveI : InW p w := ⟨hp⟩
  go_enter Tryz.func147, Tryz.ntmps147
  go_upto_region 2 with (first | (go_at_call 75; refine (jnum_any p _ bs a e (hid (by (with_reducible repeat' (first | exact Hid.out (by assumption) | refine Rs.alloc ?_ _ | refine Rs.ext _ ?_ | refine Rs.drew ?_ | refine Rs.setCell ?_ (by omega) _)); first | done | fail))).go (fun n a1 e1 v y hx hR h1 => ?_); obtain ⟨rfl, l1n, l2n⟩ := hx.out; clear hx; have hs := y.size; (try simp at hs)) | fail)
  haveI : Nq w.heap.size p y.val := ⟨by omega, by omega⟩
  by_cases h5 : 5 < n
  · have g5 : (n == 5) = false := by simp; omega
    go_wp2_with (first | (go_at_call 40; refine (jfail_any p _ bs a1 e1 4 (hid (by (with_reducible repeat' (first | exact Hid.out (by assumption) | refine Rs.alloc ?_ _ | refine Rs.ext _ ?_ | refine Rs.drew ?_ | refine Rs.setCell ?_ (by omega) _)); first | done | fail))).mono ?_; intro en w' hF; obtain ⟨rfl, y, e2, rfl, h2, hR⟩ := hF; have hs := y.size; (try simp at hs)) | fail)
    go_returns
    exact OutR.ret (a' := a1) (e' := e2) (by (with_reducible repeat' (first | exact Fp.refl | exact Hid.out (by assumption) | refine Fp.alloc ?_ _ | refine fp_ext _ ?_ | refine fp_px _ ?_ | refine Fp.drew ?_ | refine Fp.setCell ?_ (.inr (by omega)) _)); first | done | fail) (rep_ty l1n l2n (i64_byte (by omega) (by omega)) (i64_byte (by omega) (by omega))) (by (with_reducible repeat' (first | exact Hid.out (by assumption) | refine Rs.alloc ?_ _ | refine Rs.ext _ ?_ | refine Rs.drew ?_ | refine Rs.setCell ?_ (by omega) _)); first | done | fail) (h1.out.bind (by rw [if_pos (show 5 < n by omega)]; exact Post.fail (by decide) h2 (.pure _)))
  · by_cases h6 : n = 5
    · subst h6
      go_wp2_with (first | (go_at_call 145; refine (jref_any p _ bs a1 e1 (hid (by (with_reducible repeat' (first | exact Hid.out (by assumption) | refine Rs.alloc ?_ _ | refine Rs.ext _ ?_ | refine Rs.drew ?_ | refine Rs.setCell ?_ (by omega) _)); first | done | fail))).go (fun x a2 e2 v y hx hR h2 => ?_); obtain ⟨m, F, rfl, hq, hF, hok⟩ := hx.out; simp only [id] at hq; subst hq; have okm := hid (hok _ (Nat.le_refl _) fun _ _ => rfl); clear hx hok hF F; have hs := y.size; (try simp at hs)) | fail)
      go_returns
      exact OutR.ret (a' := a2) (e' := e2) (by (with_reducible repeat' (first | exact Fp.refl | exact Hid.out (by assumption) | refine Fp.alloc ?_ _ | refine fp_ext _ ?_ | refine fp_px _ ?_ | refine Fp.drew ?_ | refine Fp.setCell ?_ (.inr (by omega)) _)); first | done | fail) (rep_ty l1n l2n okm.out.1 okm.out.2) (by (with_reducible repeat' (first | exact Hid.out (by assumption) | refine Rs.alloc ?_ _ | refine Rs.ext _ ?_ | refine Rs.drew ?_ | refine Rs.setCell ?_ (by omega) _)); first | done | fail) (h1.out.bind (by rw [if_neg (by omega), if_pos rfl]; exact h2.out.bind (.pure _)))
    · have g5 : (n == 5) = false := by simp [h6]
      have H6 := hid h6
      clear h6
      go_wp2_with fail
      go_returns
      exact OutR.ret (a' := a1) (e' := e1) (by (with_reducible repeat' (first | exact Fp.refl | exact Hid.out (by assumption) | refine Fp.alloc ?_ _ | refine fp_ext _ ?_ | refine fp_px _ ?_ | refine Fp.drew ?_ | refine Fp.setCell ?_ (.inr (by omega)) _)); first | done | fail) (rep_ty l1n l2n (i64_byte (by omega) (by omega)) (i64_byte (by omega) (by omega))) (by (with_reducible repeat' (first | exact Hid.out (by assumption) | refine Rs.alloc ?_ _ | refine Rs.ext _ ?_ | refine Rs.drew ?_ | refine Rs.setCell ?_ (by omega) _)); first | done | fail) (h1.out.bind (by rw [if_neg (show ¬ 5 < n by omega), if_neg H6.out]; exact .pure _))
end Go.Proofs.YthagkijplklemaaGreatDoor
end

section
namespace Go.Proofs.YthagkijplklemaaGreatDoor
open Go.ChangeShapes Go.WideShapes Go.ChangeAt Go.RowKit Go.Sc
set_option maxRecDepth 20000 in
set_option maxHeartbeats 1000000 in
theorem jtypes_any (p : Nat) (w : World) (bs : List Int) (a : Nat) (e : Int) (hR : Hid (Rs p w bs a e)) : Reads Tryz.prog 79 #[.pointer (some ⟨p, 0, none⟩)] p w bs a e (listP typP) (RepL eTy 3 id) := by
  unfold Reads
  have hp := hR.out.lt
  haveI : InW p w := ⟨hp⟩
  haveI : LeW w.heap.size w := LeW.refl
  go_enter Tryz.func79, Tryz.ntmps79
  go_wp2_with (first | (go_at_call 75; refine (jnum_any p _ bs a e (hid (by (with_reducible repeat' (first | exact Hid.out (by assumption) | refine Rs.alloc ?_ _ | refine Rs.ext _ ?_ | refine Rs.drew ?_ | refine Rs.setCell ?_ (by omega) _)); first | done | fail))).go (fun n a1 e1 v y hx hR h1 => ?_); obtain ⟨rfl, l1n, l2n⟩ := hx.out; clear hx; have hs := y.size; (try simp at hs)) | fail)
  obtain ⟨N, rfl⟩ := Int.eq_ofNat_of_zero_le l1n
  go_loopw [3, 5] (fun o i wr => ∃ (k : Nat) (acc : List Ty) (F : Nat → Prop) (a2 : Nat) (e2 : Int), k ≤ N ∧ acc.length = k ∧ i = .int .i64 k ∧ Fp p w wr ∧ LK eTy 3 51 w.heap.size o wr acc F ∧ Hid (Rs p wr bs a2 e2) ∧ Hid (Post (repP typP k) bs a1 e1 (acc.map id) a2 e2)) (fun _ i _ => N - (intOf i).toNat)
  case atStart => exact ⟨0, [], _, a1, e1, Nat.zero_le _, rfl, rfl, (by (with_reducible repeat' (first | exact Fp.refl | exact Hid.out (by assumption) | refine Fp.alloc ?_ _ | refine fp_ext _ ?_ | refine fp_px _ ?_ | refine Fp.drew ?_ | refine Fp.setCell ?_ (.inr (by omega)) _)); first | done | fail), LK.start, hR, hid (.pure _)⟩
  case round =>
    obtain ⟨k, acc, F, a2, e2, hk, hak, rfl, hf, hI, HR, HP⟩ := hrel
    have HI := hid hI
    have HA := hid hak
    have hfp := hid hf
    have hwr := hf.size
    have hc2 := HR.out.err
    haveI : LeW w.heap.size wr := ⟨hwr⟩
    haveI : InW p wr := ⟨HR.out.lt⟩
    clear hI hak hf
    by_cases hlt : k < N
    · by_cases he : e2 = 0
      · subst he
        have hal : acc.length ≤ 255 := by have := HA.out; omega
        go_wp2_with (first | (go_at_call 147; refine (jone_any p _ bs a2 0 (hid (by (with_reducible repeat' (first | exact Hid.out (by assumption) | refine Rs.alloc ?_ _ | refine Rs.ext _ ?_ | refine Rs.drew ?_ | refine Rs.setCell ?_ (by omega) _)); first | done | fail))).go (fun x a3 e3 v y hrp hR2 h3 => ?_); obtain ⟨c, G, rfl, hc, hG, hok⟩ := hrp.out; have HC := hid hc; have HG := hid hG; have HOK := hid hok; clear hc hG hok hrp; have hkp := hid (show Kept w.heap.size wr y.val from .px y .refl hp); have hon : Hid (y.val.ownsRow w.heap.size 51 3 u3 acc.length (acc.flatMap (El.cells eTy))) := hid (HI.out.keep hkp.out).own; haveI : LeW w.heap.size y.val := ⟨Nat.le_trans hwr y.fp.size⟩) | (at_builtin; refine wpList_appL _ rfl _ _ 26 rfl w.heap.size 51 (.agg #[.int .i64 0, .int .i64 0, .int .i64 0]) 3 24 Tryz.underlying26 infTy rfl (by decide) u3 acc.length (acc.flatMap (El.cells eTy)) rfl hon #[.int .i64 c.k, .int .i64 c.c.p, .int .i64 c.c.c] _ 1 1 rfl rfl (by intro q hq; simp at hq; (repeat' (rcases hq with rfl | hq)); all_goals (first | rfl | (subst hq; rfl))) (by unfold maxLen; omega) (by omega) LeW.le ?_; intro v' w1 ho' hg hat) | fail)
        go_roundw
        case rel =>
          refine ⟨k + 1, acc ++ [c], _, a3, e3, by omega, by simp [HA.out], by go_num, HI.out.fp (Nat.le_refl _) (hfp.out.trans y.fp) hg.out, HI.out.step hkp.out HG.out hwr HOK.out (own_eq ho'.out (by simp) (by simp [eTy])) hg.out hat.out, hid (HI.out.rs hp hR2.out hg.out), hid ?_⟩
          rw [List.map_append, List.map_cons, List.map_nil, HC.out]
          exact HP.out.snoc h3.out
        case measure => simp [intOf]; omega
      · have hg2 : (e2 == 0) = false := by simp [he]
        have HE := hid he
        clear he
        go_wp2_with fail
        go_ret
        exact OutR.ret (a' := a2) (e' := e2) hfp.out (HI.out.done fun x _ => rfl) HR.out (Post.list h1.out HP.out OM (.inr HE.out))
    · obtain rfl : k = N := by omega
      go_wp2_with fail
      go_ret
      exact OutR.ret (a' := a2) (e' := e2) hfp.out (HI.out.done fun x _ => rfl) HR.out (Post.list h1.out HP.out OM (.inl (by simp)))
def fN (mb : Bool) : Rr Int := numP.bind fun x => Rr.pure (if mb = true ∧ x = 255 then -1 else x)
theorem fN_true : fN true = virtP := by
  unfold fN virtP
  simp
theorem fN_false : fN false = numP := by
  funext b
  unfold fN Rr.bind
  cases h : numP b with
  | error c => rfl
  | ok z => obtain ⟨x, r⟩ := z; simp [Rr.pure]
set_option maxRecDepth 20000 in
set_option maxHeartbeats 1000000 in
theorem jnumbers_any (mb : Bool) (p : Nat) (w : World) (bs : List Int) (a : Nat) (e : Int) (hR : Hid (Rs p w bs a e)) : Reads Tryz.prog 146 #[.pointer (some ⟨p, 0, none⟩), .bool mb] p w bs a e (listP (fN mb)) (RepL eInt 1 id) := by
  unfold Reads
  have hp := hR.out.lt
  haveI : InW p w := ⟨hp⟩
  haveI : LeW w.heap.size w := LeW.refl
  obtain ⟨mb0, hmb⟩ : ∃ b, b = mb := ⟨_, rfl⟩
  have HMB := hid hmb
  rw [← hmb]
  clear hmb
  go_enter Tryz.func146, Tryz.ntmps146
  go_wp2_with (first | (go_at_call 75; refine (jnum_any p _ bs a e (hid (by (with_reducible repeat' (first | exact Hid.out (by assumption) | refine Rs.alloc ?_ _ | refine Rs.ext _ ?_ | refine Rs.drew ?_ | refine Rs.setCell ?_ (by omega) _)); first | done | fail))).go (fun n a1 e1 v y hx hR h1 => ?_); obtain ⟨rfl, l1n, l2n⟩ := hx.out; clear hx; have hs := y.size; (try simp at hs)) | fail)
  obtain ⟨N, rfl⟩ := Int.eq_ofNat_of_zero_le l1n
  go_loopw [5, 7, 8] (fun o i _ wr => ∃ (k : Nat) (acc : List Int) (F : Nat → Prop) (a2 : Nat) (e2 : Int), k ≤ N ∧ acc.length = k ∧ i = .int .i64 k ∧ Fp p w wr ∧ LK eInt 1 3 w.heap.size o wr acc F ∧ Hid (Rs p wr bs a2 e2) ∧ Hid (Post (repP (fN mb0) k) bs a1 e1 (acc.map id) a2 e2)) (fun _ i _ _ => N - (intOf i).toNat)
  case atStart => exact ⟨0, [], _, a1, e1, Nat.zero_le _, rfl, rfl, (by (with_reducible repeat' (first | exact Fp.refl | exact Hid.out (by assumption) | refine Fp.alloc ?_ _ | refine fp_ext _ ?_ | refine fp_px _ ?_ | refine Fp.drew ?_ | refine Fp.setCell ?_ (.inr (by omega)) _)); first | done | fail), LK.start, hR, hid (.pure _)⟩
  case round =>
    obtain ⟨k, acc, F, a2, e2, hk, hak, rfl, hf, hI, HR, HP⟩ := hrel
    have HI := hid hI
    have HA := hid hak
    have hfp := hid hf
    have hwr := hf.size
    have hc2 := HR.out.err
    haveI : LeW w.heap.size wr := ⟨hwr⟩
    haveI : InW p wr := ⟨HR.out.lt⟩
    clear hI hak hf
    by_cases hlt : k < N
    · by_cases he : e2 = 0
      · subst he
        have hal : acc.length ≤ 255 := by have := HA.out; omega
        go_upto_region 7 with (first | (go_at_call 75; refine (jnum_any p _ bs a2 0 (hid (by (with_reducible repeat' (first | exact Hid.out (by assumption) | refine Rs.alloc ?_ _ | refine Rs.ext _ ?_ | refine Rs.drew ?_ | refine Rs.setCell ?_ (by omega) _)); first | done | fail))).go (fun x a3 e3 v y hx hR h3 => ?_); obtain ⟨rfl, l1x, l2x⟩ := hx.out; clear hx; have hs := y.size; (try simp at hs)) | fail)
        have hRy : Hid (Rs p y.val bs a3 e3) := by assumption
        cases mb0 with
        | false =>
          have hC : Hid (Post (fN false) bs a2 0 x a3 e3) := hid (h3.out.bind (by rw [if_neg (by simp)]; exact .pure _))
          have hkp := hid (show Kept w.heap.size wr y.val from .px y .refl hp)
          have hon : Hid (y.val.ownsRow w.heap.size 3 1 u5 acc.length (acc.flatMap (El.cells eInt))) := hid (HI.out.keep hkp.out).own
          haveI : LeW w.heap.size y.val := ⟨Nat.le_trans hwr y.fp.size⟩
          go_wp2_with (first | (at_builtin; refine wpList_appL _ rfl _ _ 46 rfl w.heap.size 3 (.int .i64 0) 1 8 Tryz.underlying46 infInt rfl (by decide) u5 acc.length (acc.flatMap (El.cells eInt)) rfl hon #[.int .i64 x] _ 1 1 rfl rfl (by intro q hq; simp at hq; subst hq; rfl) (by unfold maxLen; omega) (by omega) LeW.le ?_; intro v' w1 ho' hg hat) | fail)
          go_roundw
          case rel =>
            refine ⟨k + 1, acc ++ [x], _, a3, e3, by omega, by simp [HA.out], by go_num, HI.out.fp (Nat.le_refl _) (hfp.out.trans y.fp) hg.out, HI.out.step hkp.out (F' := fun _ => False) (fun b h => h.elim) hwr (fun w' _ _ => ⟨by omega, by omega⟩) (own_eq ho'.out (by simp) (by simp [eInt])) hg.out hat.out, hid (HI.out.rs hp hRy.out hg.out), hid ?_⟩
            rw [List.map_append, List.map_cons, List.map_nil]
            exact HP.out.snoc hC.out
          case measure => simp [intOf]; omega
        | true =>
          by_cases h255 : x = 255
          · subst h255
            have hC : Hid (Post (fN true) bs a2 0 (-1) a3 e3) := hid (h3.out.bind (by rw [if_pos (by simp)]; exact .pure _))
            have hkp := hid (show Kept w.heap.size wr y.val from .px y .refl hp)
            have hon : Hid (y.val.ownsRow w.heap.size 3 1 u5 acc.length (acc.flatMap (El.cells eInt))) := hid (HI.out.keep hkp.out).own
            haveI : LeW w.heap.size y.val := ⟨Nat.le_trans hwr y.fp.size⟩
            go_wp2_with (first | (at_builtin; refine wpList_appL _ rfl _ _ 46 rfl w.heap.size 3 (.int .i64 0) 1 8 Tryz.underlying46 infInt rfl (by decide) u5 acc.length (acc.flatMap (El.cells eInt)) rfl hon #[.int .i64 (-1)] _ 1 1 rfl rfl (by intro q hq; simp at hq; subst hq; rfl) (by unfold maxLen; omega) (by omega) LeW.le ?_; intro v' w1 ho' hg hat) | fail)
            go_roundw
            case rel =>
              refine ⟨k + 1, acc ++ [(-1)], _, a3, e3, by omega, by simp [HA.out], by go_num, HI.out.fp (Nat.le_refl _) (hfp.out.trans y.fp) hg.out, HI.out.step hkp.out (F' := fun _ => False) (fun b h => h.elim) hwr (fun w' _ _ => ⟨by omega, by omega⟩) (own_eq ho'.out (by simp) (by simp [eInt])) hg.out hat.out, hid (HI.out.rs hp hRy.out hg.out), hid ?_⟩
              rw [List.map_append, List.map_cons, List.map_nil]
              exact HP.out.snoc hC.out
            case measure => simp [intOf]; omega
          · have hx5 : (x == 255) = false := by simp [h255]
            have HX := hid h255
            clear h255
            have hC : Hid (Post (fN true) bs a2 0 x a3 e3) := hid (h3.out.bind (by rw [if_neg (by simp [HX.out])]; exact .pure _))
            have hkp := hid (show Kept w.heap.size wr y.val from .px y .refl hp)
            have hon : Hid (y.val.ownsRow w.heap.size 3 1 u5 acc.length (acc.flatMap (El.cells eInt))) := hid (HI.out.keep hkp.out).own
            haveI : LeW w.heap.size y.val := ⟨Nat.le_trans hwr y.fp.size⟩
            go_wp2_with (first | (at_builtin; refine wpList_appL _ rfl _ _ 46 rfl w.heap.size 3 (.int .i64 0) 1 8 Tryz.underlying46 infInt rfl (by decide) u5 acc.length (acc.flatMap (El.cells eInt)) rfl hon #[.int .i64 x] _ 1 1 rfl rfl (by intro q hq; simp at hq; subst hq; rfl) (by unfold maxLen; omega) (by omega) LeW.le ?_; intro v' w1 ho' hg hat) | fail)
            go_roundw
            case rel =>
              refine ⟨k + 1, acc ++ [x], _, a3, e3, by omega, by simp [HA.out], by go_num, HI.out.fp (Nat.le_refl _) (hfp.out.trans y.fp) hg.out, HI.out.step hkp.out (F' := fun _ => False) (fun b h => h.elim) hwr (fun w' _ _ => ⟨by omega, by omega⟩) (own_eq ho'.out (by simp) (by simp [eInt])) hg.out hat.out, hid (HI.out.rs hp hRy.out hg.out), hid ?_⟩
              rw [List.map_append, List.map_cons, List.map_nil]
              exact HP.out.snoc hC.out
            case measure => simp [intOf]; omega
      · have hg2 : (e2 == 0) = false := by simp [he]
        have HE := hid he
        clear he
        go_wp2_with fail
        go_ret
        exact OutR.ret (a' := a2) (e' := e2) hfp.out (HI.out.done fun x _ => rfl) HR.out (Post.list h1.out HP.out OM (.inr HE.out))
    · obtain rfl : k = N := by omega
      go_wp2_with fail
      go_ret
      exact OutR.ret (a' := a2) (e' := e2) hfp.out (HI.out.done fun x _ => rfl) HR.out (Post.list h1.out HP.out OM (.inl (by simp)))
theorem jvirt_any (p : Nat) (w : World) (bs : List Int) (a : Nat) (e : Int) (hR : Hid (Rs p w bs a e)) : Reads Tryz.prog 146 #[.pointer (some ⟨p, 0, none⟩), .bool true] p w bs a e (listP virtP) (RepL eInt 1 id) := by
  have := jnumbers_any true p w bs a e hR
  rwa [fN_true] at this
theorem jnums_any (p : Nat) (w : World) (bs : List Int) (a : Nat) (e : Int) (hR : Hid (Rs p w bs a e)) : Reads Tryz.prog 146 #[.pointer (some ⟨p, 0, none⟩), .bool false] p w bs a e (listP numP) (RepL eInt 1 id) := by
  have := jnumbers_any false p w bs a e hR
  rwa [fN_false] at this
end Go.Proofs.YthagkijplklemaaGreatDoor
end
