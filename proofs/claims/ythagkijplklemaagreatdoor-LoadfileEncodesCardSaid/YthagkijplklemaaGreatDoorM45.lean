/- The reference's cipher. -/
import Derived.Test.YthagkijplklemaaGreatDoorM20
section
namespace Go.Proofs.YthagkijplklemaaGreatDoor
open Go.ChangeShapes Go.WideShapes Go.ChangeAt Go.RowKit Go.Sc
set_option maxRecDepth 20000 in
theorem rnum4 (a : Option Addr) (c : Nat) (x0 x1 x2 x3 : Int) (w : World) (hs : Hid (Bytes w ⟨a, c, [x0, x1, x2, x3]⟩)) : Gives Tryz.prog 206 #[.slice a 4 c] w (.int .u32 (numL [x0, x1, x2, x3])) := by
  have hle := hs.out.le
  have hmx := hs.out.max
  simp only [List.length_cons, List.length_nil] at hle hmx
  obtain ⟨⟨l0, u0⟩, b, off, hba, hbl, hc0⟩ := hs.out.at_ 0 x0 rfl
  simp only at hba
  subst hba
  have c0 := hc0 0 _ rfl
  obtain ⟨⟨l1, u1⟩, b1, off1, hba1, -, hc1⟩ := hs.out.at_ 1 x1 rfl
  cases hba1
  have c1 := hc1 0 _ rfl
  obtain ⟨⟨l2, u2⟩, b1, off1, hba1, -, hc2⟩ := hs.out.at_ 2 x2 rfl
  cases hba1
  have c2 := hc2 0 _ rfl
  obtain ⟨⟨l3, u3⟩, b1, off1, hba1, -, hc3⟩ := hs.out.at_ 3 x3 rfl
  cases hba1
  have c3 := hc3 0 _ rfl
  simp only [Nat.add_zero, Nat.mul_one] at c0 c1 c2 c3
  clear hc0 hc1 hc2 hc3
  haveI : InW b w := ⟨hbl⟩
  unfold Gives
  go_enter Tryz.func206, Tryz.ntmps206
  go_wp2_with fail
  refine wp_region_ext (by kernel_rfl) (by kernel_rfl) ?_; (repeat (go_big_quiet_step (fail))); refine wpQuiet_nil ?_; intro xw
  go_wp2_with fail
  go_ret
  exact ⟨ret_u32 (by show _ = x0 * 16777216 + x1 * 65536 + x2 * 256 + x3; omega), (by with_reducible repeat' (first | exact Below.refl _ _ | exact Nat.le_refl _ | refine Below.alloc ?_ ?_ _ | refine below_ext _ ?_ ?_ | refine Below.drew ?_ | refine Below.setCell ?_ ?_ _ | refine le_alloc ?_ | refine Ext.le_size _ ?_ | refine le_drew ?_ | refine le_setCell ?_))⟩
theorem rnum32_any (a : Option Addr) (c : Nat) (l : List Int) (hl : l.length = 4) (w : World) (hs : Hid (Bytes w ⟨a, c, l⟩)) : Gives Tryz.prog 206 #[.slice a 4 c] w (.int .u32 (numL l)) := by
  match l, hl with
  | [x0, x1, x2, x3], _ => exact rnum4 a c x0 x1 x2 x3 w hs
theorem mix_any (x k : Int) (w : World) (h1 : u32i x) (h3 : u32i k) : Gives Tryz.prog 207 #[.int .u32 x, .int .u32 k] w (.int .u32 (fF x k)) := by
  obtain ⟨h1, h2⟩ := h1
  obtain ⟨h3, h4⟩ := h3
  unfold Gives
  go_enter Tryz.func207, Tryz.ntmps207
  go_wp2_with fail
  go_ret
  exact ⟨ret_u32 rfl, (by with_reducible repeat' (first | exact Below.refl _ _ | exact Nat.le_refl _ | refine Below.alloc ?_ ?_ _ | refine below_ext _ ?_ ?_ | refine Below.drew ?_ | refine Below.setCell ?_ ?_ _ | refine le_alloc ?_ | refine Ext.le_size _ ?_ | refine le_drew ?_ | refine le_setCell ?_))⟩
set_option maxRecDepth 20000 in
set_option maxHeartbeats 1000000 in
theorem round_any (b off c : Nat) (xs : List Int) (hl : xs.length = 16) (i : Nat) (hi : i < 16) (w : World) (hs : Hid (Bytes w ⟨some ⟨b, off, none⟩, c, xs⟩)) : Gives Tryz.prog 208 #[.slice (some ⟨b, off, none⟩) 16 c, .int .i64 i] w (.int .u32 (rkF xs i)) := by
  have hle := hs.out.le
  have hmx := hs.out.max
  simp only [hl] at hle hmx
  have hN : Hid (∀ (W : World) (k : Nat), Below w.heap.size w W → k ≤ 12 → Gives Tryz.prog 206 #[.slice (some ⟨b, off + k, none⟩) 4 (c - k)] W (.int .u32 (numL ((xs.drop k).take 4)))) := fun W k hb hk => by
    have h1 := bytes_drop (hs.out.mono hb) (k := k) (by omega)
    have h2 : Bytes W ⟨some ⟨b, off + k, none⟩, c - k, (xs.drop k).take 4⟩ := by
      simp only [Option.map_some, addr_add] at h1
      refine ⟨by simp; omega, h1.max, h1.nil, fun j x hx => h1.at_ j x ?_⟩
      simp only [List.getElem?_take] at hx
      split at hx
      · exact hx
      · cases hx
    exact rnum32_any _ _ _ (by simp; omega) W (hid h2)
  have hE : Hid (rkF xs i = (numL ((xs.drop (i % 4 * 4)).take 4) + (i : Int) * 2654435769 % 4294967296) % 4294967296) := by
    have : rkF xs i = (numL ((xs.drop (i % 4 * 4)).take 4) + (i : Int) * 2654435769 % 4294967296) % 4294967296 := rfl
    exact this
  have hnu : Hid (∀ k, k ≤ 12 → u32i (numL ((xs.drop k).take 4))) := fun k _ => numL_ok fun x hx => hs.out.range x (List.mem_of_mem_drop (List.mem_of_mem_take hx))
  have hw16 : IntKind.u32.wrap (i : Int) = i := by rw [IntKind.wrap_u32]; omega
  have hi0 : (0 : Int) ≤ (i : Int) := by omega
  have hi1 : (i : Int) < 16 := by omega
  obtain h | h | h | h : i % 4 = 0 ∨ i % 4 = 1 ∨ i % 4 = 2 ∨ i % 4 = 3 := by omega
  all_goals
    rw [h] at hE
    simp only [Nat.zero_mul, Nat.one_mul, Nat.reduceMul] at hE
  · have hm : (i : Int) % 4 = 0 := by omega
    obtain ⟨y0, y1⟩ := hnu.out 0 (by omega)
    unfold Gives
    go_enter Tryz.func208, Tryz.ntmps208
    go_wp2_with (go_at_call 206; refine (hN.out _ 0 (by with_reducible repeat' (first | exact Below.refl _ _ | exact Nat.le_refl _ | refine Below.alloc ?_ ?_ _ | refine below_ext _ ?_ ?_ | refine Below.drew ?_ | refine Below.setCell ?_ ?_ _ | refine le_alloc ?_ | refine Ext.le_size _ ?_ | refine le_drew ?_ | refine le_setCell ?_)) (by omega)).go.mono ?_; rintro e w' ⟨rfl, x, rfl⟩)
    go_ret
    exact ⟨ret_u32 (by first | (rw [hE.out]; done) | (rw [hE.out]; simp)), (by with_reducible repeat' (first | exact Below.refl _ _ | exact Nat.le_refl _ | refine Below.alloc ?_ ?_ _ | refine below_ext _ ?_ ?_ | refine Below.drew ?_ | refine Below.setCell ?_ ?_ _ | refine le_alloc ?_ | refine Ext.le_size _ ?_ | refine le_drew ?_ | refine le_setCell ?_))⟩
  · have hm : (i : Int) % 4 = 1 := by omega
    obtain ⟨y0, y1⟩ := hnu.out 4 (by omega)
    unfold Gives
    go_enter Tryz.func208, Tryz.ntmps208
    go_wp2_with (go_at_call 206; refine (hN.out _ 4 (by with_reducible repeat' (first | exact Below.refl _ _ | exact Nat.le_refl _ | refine Below.alloc ?_ ?_ _ | refine below_ext _ ?_ ?_ | refine Below.drew ?_ | refine Below.setCell ?_ ?_ _ | refine le_alloc ?_ | refine Ext.le_size _ ?_ | refine le_drew ?_ | refine le_setCell ?_)) (by omega)).go.mono ?_; rintro e w' ⟨rfl, x, rfl⟩)
    go_ret
    exact ⟨ret_u32 (by first | (rw [hE.out]; done) | (rw [hE.out]; simp)), (by with_reducible repeat' (first | exact Below.refl _ _ | exact Nat.le_refl _ | refine Below.alloc ?_ ?_ _ | refine below_ext _ ?_ ?_ | refine Below.drew ?_ | refine Below.setCell ?_ ?_ _ | refine le_alloc ?_ | refine Ext.le_size _ ?_ | refine le_drew ?_ | refine le_setCell ?_))⟩
  · have hm : (i : Int) % 4 = 2 := by omega
    obtain ⟨y0, y1⟩ := hnu.out 8 (by omega)
    unfold Gives
    go_enter Tryz.func208, Tryz.ntmps208
    go_wp2_with (go_at_call 206; refine (hN.out _ 8 (by with_reducible repeat' (first | exact Below.refl _ _ | exact Nat.le_refl _ | refine Below.alloc ?_ ?_ _ | refine below_ext _ ?_ ?_ | refine Below.drew ?_ | refine Below.setCell ?_ ?_ _ | refine le_alloc ?_ | refine Ext.le_size _ ?_ | refine le_drew ?_ | refine le_setCell ?_)) (by omega)).go.mono ?_; rintro e w' ⟨rfl, x, rfl⟩)
    go_ret
    exact ⟨ret_u32 (by first | (rw [hE.out]; done) | (rw [hE.out]; simp)), (by with_reducible repeat' (first | exact Below.refl _ _ | exact Nat.le_refl _ | refine Below.alloc ?_ ?_ _ | refine below_ext _ ?_ ?_ | refine Below.drew ?_ | refine Below.setCell ?_ ?_ _ | refine le_alloc ?_ | refine Ext.le_size _ ?_ | refine le_drew ?_ | refine le_setCell ?_))⟩
  · have hm : (i : Int) % 4 = 3 := by omega
    obtain ⟨y0, y1⟩ := hnu.out 12 (by omega)
    unfold Gives
    go_enter Tryz.func208, Tryz.ntmps208
    go_wp2_with (go_at_call 206; refine (hN.out _ 12 (by with_reducible repeat' (first | exact Below.refl _ _ | exact Nat.le_refl _ | refine Below.alloc ?_ ?_ _ | refine below_ext _ ?_ ?_ | refine Below.drew ?_ | refine Below.setCell ?_ ?_ _ | refine le_alloc ?_ | refine Ext.le_size _ ?_ | refine le_drew ?_ | refine le_setCell ?_)) (by omega)).go.mono ?_; rintro e w' ⟨rfl, x, rfl⟩)
    go_ret
    exact ⟨ret_u32 (by first | (rw [hE.out]; done) | (rw [hE.out]; simp)), (by with_reducible repeat' (first | exact Below.refl _ _ | exact Nat.le_refl _ | refine Below.alloc ?_ ?_ _ | refine below_ext _ ?_ ?_ | refine Below.drew ?_ | refine Below.setCell ?_ ?_ _ | refine le_alloc ?_ | refine Ext.le_size _ ?_ | refine le_drew ?_ | refine le_setCell ?_))⟩
set_option maxRecDepth 20000 in
set_option maxHeartbeats 2000000 in
theorem rrun_any (b off c : Nat) (key : List Int) (hk : key.length = 16) (b' off' c' : Nat) (bl : List Int) (hb : bl.length = 8) (w : World) (hs : Hid (Bytes w ⟨some ⟨b, off, none⟩, c, key⟩)) (ht : Hid (Bytes w ⟨some ⟨b', off', none⟩, c', bl⟩)) :
    GivesB Tryz.prog 152 #[.slice (some ⟨b, off, none⟩) 16 c, .slice (some ⟨b', off', none⟩) 8 c', .bool false] w (fun v => .tuple #[v, .int .i64 0]) (encL key bl) := by
  unfold GivesB
  have hle := ht.out.le
  have hmx := ht.out.max
  simp only [hb] at hle hmx
  have hN1 : Hid (∀ W : World, Below w.heap.size w W → Gives Tryz.prog 206 #[.slice (some ⟨b', off', none⟩) 4 c'] W (.int .u32 (numL (bl.take 4)))) := fun W h =>
    rnum32_any _ _ _ (by simp; omega) W (hid (by
      have h1 := ht.out.mono h
      refine ⟨by simp; omega, h1.max, h1.nil, fun j x hx => h1.at_ j x ?_⟩
      simp only [List.getElem?_take] at hx
      split at hx
      · exact hx
      · cases hx))
  have hN2 : Hid (∀ W : World, Below w.heap.size w W → Gives Tryz.prog 206 #[.slice (some ⟨b', off' + 4, none⟩) 4 (c' - 4)] W (.int .u32 (numL (bl.drop 4)))) := fun W h =>
    rnum32_any _ _ _ (by simp; omega) W (hid (by
      have h1 := bytes_drop (ht.out.mono h) (k := 4) (by omega)
      simp only [Option.map_some, addr_add] at h1
      exact h1))
  have hb1 : ∀ x ∈ bl, byt x := fun x hx => ht.out.range x hx
  have ha := numL_ok (l := bl.take 4) fun x hx => hb1 x (List.mem_of_mem_take hx)
  have hbb := numL_ok (l := bl.drop 4) fun x hx => hb1 x (List.mem_of_mem_drop hx)
  have henc : Hid (encL key bl = bytes4 (runL key (numL (bl.take 4)) (numL (bl.drop 4)) 16).2 ++ bytes4 (runL key (numL (bl.take 4)) (numL (bl.drop 4)) 16).1) := hid (by rw [encL])
  have hK : Hid (∀ (k : Nat) (W : World), k < 16 → Below w.heap.size w W → Gives Tryz.prog 208 #[.slice (some ⟨b, off, none⟩) 16 c, .int .i64 k] W (.int .u32 (rkF key k))) := fun k W h h2 => round_any b off c key hk k h W (hs.out.mono h2)
  generalize numL (bl.take 4) = n1 at *
  generalize numL (bl.drop 4) = n2 at *
  go_enter Tryz.func152, Tryz.ntmps152
  go_wp2_with fail
  refine wp_region_ext (by kernel_rfl) (by kernel_rfl) ?_
  (repeat (go_big_quiet_step (first | (go_at_call 206; first | ((with_reducible refine (hN1.out _ ?_).at); exact (by (with_reducible repeat' (first | exact Hid.out (by assumption) | exact Below.refl _ _ | exact Nat.le_refl _ | refine Below.alloc ?_ ?_ _ | refine below_ext _ ?_ ?_ | refine Below.drew ?_ | refine Below.setCell ?_ ?_ _ | refine le_alloc ?_ | refine Ext.le_size _ ?_ | refine le_drew ?_ | refine le_setCell ?_)); (all_goals (first | omega | (simp; done) | (simp; omega))))) | ((with_reducible refine (hN2.out _ ?_).at); exact (by (with_reducible repeat' (first | exact Hid.out (by assumption) | exact Below.refl _ _ | exact Nat.le_refl _ | refine Below.alloc ?_ ?_ _ | refine below_ext _ ?_ ?_ | refine Below.drew ?_ | refine Below.setCell ?_ ?_ _ | refine le_alloc ?_ | refine Ext.le_size _ ?_ | refine le_drew ?_ | refine le_setCell ?_)); (all_goals (first | omega | (simp; done) | (simp; omega)))))))))
  refine wpQuiet_nil ?_
  intro xw
  go_wp2_with fail
  go_loopw [8, 9, 10] (fun l r i wr => ∃ (k : Nat) (x : Ext w), k ≤ 16 ∧ i = .int .i64 k ∧ l = .int .u32 (runL key n1 n2 k).1 ∧ r = .int .u32 (runL key n1 n2 k).2 ∧ wr = x.val) (fun _ _ i _ => 16 - (intOf i).toNat)
  case atStart => exact ⟨0, ⟨_, (by (with_reducible repeat' (first | exact Hid.out (by assumption) | exact Below.refl _ _ | exact Nat.le_refl _ | refine Below.alloc ?_ ?_ _ | refine below_ext _ ?_ ?_ | refine Below.drew ?_ | refine Below.setCell ?_ ?_ _ | refine le_alloc ?_ | refine Ext.le_size _ ?_ | refine le_drew ?_ | refine le_setCell ?_)); (all_goals (first | omega | (simp; done) | (simp; omega))))⟩, Nat.zero_le _, rfl, rfl, rfl, rfl⟩
  case round =>
    obtain ⟨k, x, hk, rfl, rfl, rfl, rfl⟩ := hrel
    have hrun := runL_ok (key := key) ha hbb k
    generalize hst : runL key n1 n2 k = st at *
    obtain ⟨p, q⟩ := st
    have HST := hid hst
    clear hst
    obtain ⟨⟨hp0, hp1⟩, ⟨hq0, hq1⟩⟩ := hrun
    simp only at hp0 hp1 hq0 hq1
    obtain hlt | rfl : k < 16 ∨ k = 16 := by omega
    · have hk1 : (0 : Int) ≤ (k : Int) := by omega
      have hk2 : (k : Int) < 16 := by omega
      have hM : Hid (∀ W : World, Gives Tryz.prog 207 #[.int .u32 q, .int .u32 (rkF key k)] W (.int .u32 (fF q (rkF key k)))) := fun W => mix_any q _ W ⟨hq0, hq1⟩ (rkF_ok key k)
      have hn : Hid (runL key n1 n2 (k + 1) = (q, bits .xor .u32 p (fF q (rkF key k)))) := by
        have : runL key n1 n2 (k + 1) = (q, bits .xor .u32 p (fF q (rkF key k))) := by
          show (_, _) = _
          rw [HST.out]
        exact this
      go_wp2_with (first | (go_at_call 208; refine (hK.out k _ hlt (by (with_reducible repeat' (first | exact Hid.out (by assumption) | exact Below.refl _ _ | exact Nat.le_refl _ | refine Below.alloc ?_ ?_ _ | refine below_ext _ ?_ ?_ | refine Below.drew ?_ | refine Below.setCell ?_ ?_ _ | refine le_alloc ?_ | refine Ext.le_size _ ?_ | refine le_drew ?_ | refine le_setCell ?_)); (all_goals (first | omega | (simp; done) | (simp; omega))))).go.mono ?_; rintro e w' ⟨rfl, xw, rfl⟩) | (go_at_call 207; refine (hM.out _).go.mono ?_; rintro e w' ⟨rfl, xw, rfl⟩) | fail)
      go_roundw
      case rel => exact ⟨k + 1, ⟨_, (by (with_reducible repeat' (first | exact Hid.out (by assumption) | exact Below.refl _ _ | exact Nat.le_refl _ | refine Below.alloc ?_ ?_ _ | refine below_ext _ ?_ ?_ | refine Below.drew ?_ | refine Below.setCell ?_ ?_ _ | refine le_alloc ?_ | refine Ext.le_size _ ?_ | refine le_drew ?_ | refine le_setCell ?_)); (all_goals (first | omega | (simp; done) | (simp; omega))))⟩, by omega, by go_num, by rw [hn.out], by rw [hn.out], rfl⟩
      case measure => simp [intOf]; omega
    · go_wp2_with fail
      have hE : encL key bl = [q / 16777216, q / 65536 % 256, q / 256 % 256, q % 256] ++ [p / 16777216, p / 65536 % 256, p / 256 % 256, p % 256] := by rw [henc.out, HST.out, b4_eq ⟨hq0, hq1⟩, b4_eq ⟨hp0, hp1⟩]
      have hb := bytes_new x.val [q / 16777216, q / 65536 % 256, q / 256 % 256, q % 256, p / 16777216, p / 65536 % 256, p / 256 % 256, p % 256] 5 _ rfl (fun z hz => encL_byt key bl z (by rw [hE]; exact hz)) (by simp)
      go_returns
      exact ⟨some ⟨x.val.heap.size, 0, none⟩, 8, by rw [hE]; rfl, by rw [hE]; exact hb, (by (with_reducible repeat' (first | exact Hid.out (by assumption) | exact Below.refl _ _ | exact Nat.le_refl _ | refine Below.alloc ?_ ?_ _ | refine below_ext _ ?_ ?_ | refine Below.drew ?_ | refine Below.setCell ?_ ?_ _ | refine le_alloc ?_ | refine Ext.le_size _ ?_ | refine le_drew ?_ | refine le_setCell ?_)); (all_goals (first | omega | (simp; done) | (simp; omega)))), fun b o q h => by cases h; exact x.size⟩
theorem rencrypt_any (b off c : Nat) (key : List Int) (hk : key.length = 16) (b' off' c' : Nat) (bl : List Int) (hb : bl.length = 8) (w : World) (hs : Hid (Bytes w ⟨some ⟨b, off, none⟩, c, key⟩)) (ht : Hid (Bytes w ⟨some ⟨b', off', none⟩, c', bl⟩)) :
    GivesB Tryz.prog 96 #[.slice (some ⟨b, off, none⟩) 16 c, .slice (some ⟨b', off', none⟩) 8 c'] w (fun v => .tuple #[v, .int .i64 0]) (encL key bl) := by
  unfold GivesB
  have hC := hid (rrun_any b off c key hk b' off' c' bl hb w hs ht)
  go_enter Tryz.func96, Tryz.ntmps96
  go_wp2_with (go_at_call 152; refine hC.out.go.mono ?_; rintro e w' ⟨A, C, x, rfl, rfl, hb, hf⟩)
  go_returns
  exact ⟨A, C, rfl, hb.out, x.below, hf.out⟩
end Go.Proofs.YthagkijplklemaaGreatDoor
end
