/- The cipher: the rounds. The cipher: a block. Strings of bytes: xor. Strings of bytes: a number as eight bytes. Strings of bytes: join. The reference's cipher. -/
import Derived.Test.YthagkijplklemaaGreatDoorS21
import Derived.StillTailTactics
import Derived.Test.YthagkijplklemaaGreatDoorS23
section
namespace Go.Sc
theorem Held.set2 {w : World} {b k n : Nat} {f g : Nat → Value} {v : Value} (h : Held w b n f) (hk : k < n) (hv : g k = v) (hg : ∀ j, j < n → j ≠ k → g j = f j) : Held (w.setCell ⟨b, k, none⟩ v) b n g := by
  have h1 : Held (w.setCell ⟨b, k, none⟩ v) b n (fun j => if j = k then v else f j) := Held.set (f := f) (v := v) h hk (if_pos rfl) (fun j e => if_neg e)
  refine ⟨h1.1, fun j hj => ⟨(h1.2 j hj).1.trans ?_, (h1.2 j hj).2⟩⟩
  by_cases e : j = k
  · subst e; simp [hv]
  · simp [e, hg j hj e]
def haS (s : Int × Int) (j : Nat) : Value := .int .u32 (if j = 0 then s.1 else s.2)
theorem held_pair {w : World} {b : Nat} {s : Int × Int} (y z : Int) (h : Held w b 2 (haS s)) : Held ((w.setCell ⟨b, 0, none⟩ (.int .u32 y)).setCell ⟨b, 1, none⟩ (.int .u32 z)) b 2 (haS (y, z)) := by
  have h1 : Held (w.setCell ⟨b, 0, none⟩ (.int .u32 y)) b 2 (haS (y, s.2)) := h.set2 (by omega) rfl fun j hj e => by
    obtain rfl : j = 1 := by omega
    rfl
  exact h1.set2 (by omega) rfl fun j hj e => by
    obtain rfl : j = 0 := by omega
    rfl
end Go.Sc
namespace Go.Proofs.YthagkijplklemaaGreatDoor
open Go.ChangeShapes Go.WideShapes Go.ChangeAt Go.RowKit Go.Sc
theorem f_same (x k : Int) (w : World) (h1 : u32i x) (h3 : u32i k) : Calls Tryz.prog 226 #[.int .u32 x, .int .u32 k] w fun e w' => e = .returned (.int .u32 (fF x k)) ∧ w = w' := by
  obtain ⟨h1, h2⟩ := h1
  obtain ⟨h3, h4⟩ := h3
  go_enter Tryz.func226, Tryz.ntmps226
  go_wp2_with fail
  go_ret
  exact ⟨ret_u32 rfl, rfl⟩
def keyS (xs : List Int) (j : Nat) : Value := .int .u32 (rkF xs j)
set_option maxRecDepth 20000 in
set_option maxHeartbeats 2000000 in
theorem run_any (xs : List Int) (a b : Int) (w : World) (ha : u32i a) (hb : u32i b) : Gives Tryz.prog 221 #[.agg #[.int .u32 a, .int .u32 b], rksV xs] w (.agg #[.int .u32 (runL xs a b 16).2, .int .u32 (runL xs a b 16).1]) := by
  unfold Gives
  go_enter Tryz.func221, Tryz.ntmps221
  go_wp2_with fail
  go_loopw [6] (fun i wr => ∃ k : Nat, k ≤ 16 ∧ i = .int .i64 k ∧ Below w.heap.size w wr ∧ Held wr w.heap.size 2 (haS (runL xs a b k)) ∧ Held wr (w.heap.size + 1) 16 (keyS xs) ∧ Held wr (w.heap.size + 1 + 1) 2 (fun _ => .int .u32 0)) (fun i _ => 16 - (intOf i).toNat)
  case atStart =>
    refine ⟨0, Nat.zero_le _, rfl, END, ((Held.new _ _ _ _ _ ?_).alloc _).alloc _, (Held.new_at _ _ _ _ _ _ (by simp) ?_).alloc _, Held.new_at _ _ _ _ _ _ (by simp) ?_⟩
    · intro j hj
      obtain rfl | rfl : j = 0 ∨ j = 1 := by omega
      all_goals rfl
    · intro j hj
      rcases lt16 hj with rfl | rfl | rfl | rfl | rfl | rfl | rfl | rfl | rfl | rfl | rfl | rfl | rfl | rfl | rfl | rfl
      all_goals rfl
    · intro j hj
      obtain rfl | rfl : j = 0 ∨ j = 1 := by omega
      all_goals rfl
  case round =>
    obtain ⟨k, hk, rfl, hbl, h0, h1, h2⟩ := hrel
    have HB := hid hbl
    have H0 := hid h0
    have H1 := hid h1
    have H2 := hid h2
    clear hbl h0 h1 h2
    have hsz := H2.out.1
    haveI : InW w.heap.size wr := ⟨by omega⟩
    haveI : InW (w.heap.size + 1) wr := ⟨by omega⟩
    haveI : InW (w.heap.size + 1 + 1) wr := ⟨hsz⟩
    have hrun := runL_ok (key := xs) ha hb k
    generalize hst : runL xs a b k = st at *
    obtain ⟨x, y⟩ := st
    have HST := hid hst
    clear hst
    have a0 : wr.cell? ⟨w.heap.size, 0, none⟩ = some (.int .u32 x) := (H0.out.2 0 (by omega)).1
    have b0 := (H0.out.2 0 (by omega)).2
    have a1 : wr.cell? ⟨w.heap.size, 1, none⟩ = some (.int .u32 y) := (H0.out.2 1 (by omega)).1
    have b1 := (H0.out.2 1 (by omega)).2
    obtain hlt | rfl : k < 16 ∨ k = 16 := by omega
    · have hk1 : (0 : Int) ≤ (k : Int) := by omega
      have hk2 : (k : Int) < 16 := by omega
      have hc : wr.cell? ⟨w.heap.size + 1, k, none⟩ = some (.int .u32 (rkF xs k)) := (H1.out.2 k hlt).1
      go_wp2_with fail
      refine wp_region_still_tail 12 (by kernel_rfl) (by kernel_rfl) ?_
      simp only [List.take_succ_cons, List.take_zero, List.drop_succ_cons, List.drop_zero]
      change wpStill _ _ wr.drew (fun a' => wpList _ _ _ _ a' wr.drew) _ _
      repeat still_step
      refine wpStill_step (fun K hK => ?_)
      go_simp
      refine ⟨_, (f_same y (rkF xs k) wr.drew hrun.2 (rkF_ok xs k)).mono fun e w' ⟨h1, h2⟩ => ⟨h1, h2.symm⟩, hK _ ?_⟩
      clear hK K
      repeat still_step
      refine wpStill_nil ?_
      change wpList _ _ _ _ _ wr.drew
      go_wp2
      have hn : runL xs a b (k + 1) = (y, bits .xor .u32 x (fF y (rkF xs k))) := by
        show (_, _) = _
        rw [HST.out]
      exact ⟨⟨k + 1, by omega, by go_num, ENDX, (by rw [hn]; exact (held_pair _ _ H0.out).drew), ((H1.out.far (by omega)).far (by omega)).drew, ((H2.out.far (by omega)).far (by omega)).drew⟩, by simp [intOf]; omega⟩
    · have c0 : wr.cell? ⟨w.heap.size + 1 + 1, 0, none⟩ = some (.int .u32 0) := (H2.out.2 0 (by omega)).1
      have d0 := (H2.out.2 0 (by omega)).2
      have c1 : wr.cell? ⟨w.heap.size + 1 + 1, 1, none⟩ = some (.int .u32 0) := (H2.out.2 1 (by omega)).1
      have d1 := (H2.out.2 1 (by omega)).2
      go_wp2_with fail
      refine bodyPost_ret (by simp [results, Tryz.results221, go_sem, c0, c1]; try rfl) rfl ?_
      exact ⟨by rw [HST.out], ENDX⟩
end Go.Proofs.YthagkijplklemaaGreatDoor
end

section
namespace Go.Proofs.YthagkijplklemaaGreatDoor
open Go.ChangeShapes Go.WideShapes Go.ChangeAt Go.RowKit Go.Sc
theorem bytes_new (w : World) (xs : List Int) (T : TypeId) (b : Nat) (hb : b = w.heap.size) (hx : ∀ x ∈ xs, byt x) (hl : xs.length ≤ 1000000) : Bytes (w.alloc (.cells (xs.map (.int .u8)).toArray T)) ⟨some ⟨b, 0, none⟩, xs.length, xs⟩ := by
  subst hb
  refine ⟨Nat.le_refl _, by simp only; omega, (fun h => by cases h), fun k x hk => ⟨hx x (List.mem_of_getElem? hk), w.heap.size, 0, rfl, by simp, fun j v hv => ?_⟩⟩
  have hj : j = 0 := by
    rcases j with _ | j
    · rfl
    · simp [eByte] at hv
  subst hj
  rw [World.cell?_alloc_new]
  simp [eByte] at hv
  subst hv
  simp only [Nat.zero_add, Nat.mul_one, Nat.add_zero, List.getElem?_toArray, List.getElem?_map]
  simp only at hk
  rw [hk]
  rfl
theorem b4_byt {n : Int} (h : u32i n) : ∀ x ∈ [n / 16777216, n / 65536 % 256, n / 256 % 256, n % 256], byt x := by
  intro x hx
  simp only [List.mem_cons, List.not_mem_nil, or_false] at hx
  unfold u32i at h
  unfold byt
  omega
theorem b4_eq {n : Int} (h : u32i n) : bytes4 n = [n / 16777216, n / 65536 % 256, n / 256 % 256, n % 256] := by
  unfold u32i at h
  unfold bytes4
  rw [show n / 16777216 % 256 = n / 16777216 from by omega]
theorem gen_world {P : Program} {c : Code} {Q : Exit → Act → World → Prop} {a : Act} {w : World} (p : World → Prop) (hp : p w) (h : ∀ V, p V → c.wp P Q a V) : c.wp P Q a w := h w hp
set_option maxRecDepth 20000 in
set_option maxHeartbeats 2000000 in
theorem crypt_any (b off c : Nat) (key : List Int) (hk : key.length = 16) (b' off' c' : Nat) (bl : List Int) (hb : bl.length = 8) (w : World) (hs : Hid (Bytes w ⟨some ⟨b, off, none⟩, c, key⟩)) (ht : Hid (Bytes w ⟨some ⟨b', off', none⟩, c', bl⟩)) :
    GivesB Tryz.prog 205 #[.slice (some ⟨b, off, none⟩) 16 c, .slice (some ⟨b', off', none⟩) 8 c', .bool false] w (fun v => .tuple #[v, .int .i64 0]) (encL key bl) := by
  unfold GivesB
  have hle := ht.out.le
  have hmx := ht.out.max
  simp only [hb] at hle hmx
  have hR : Hid (∀ W : World, Below w.heap.size w W → Gives Tryz.prog 220 #[.slice (some ⟨b, off, none⟩) 16 c] W (rksV key)) := fun W h => rks_any b off c key hk W (hs.out.mono h)
  have hN1 : Hid (∀ W : World, Below w.heap.size w W → Gives Tryz.prog 222 #[.slice (some ⟨b', off', none⟩) 4 c'] W (.int .u32 (numL (bl.take 4)))) := fun W h =>
    cnum_any _ _ _ (by simp; omega) W (hid (by
      have h1 := ht.out.mono h
      refine ⟨by simp; omega, h1.max, h1.nil, fun j x hx => h1.at_ j x ?_⟩
      simp only [List.getElem?_take] at hx
      split at hx
      · exact hx
      · cases hx))
  have hN2 : Hid (∀ W : World, Below w.heap.size w W → Gives Tryz.prog 222 #[.slice (some ⟨b', off' + 4, none⟩) 4 (c' - 4)] W (.int .u32 (numL (bl.drop 4)))) := fun W h =>
    cnum_any _ _ _ (by simp; omega) W (hid (by
      have h1 := bytes_drop (ht.out.mono h) (k := 4) (by omega)
      simp only [Option.map_some, addr_add] at h1
      exact h1))
  have hb1 : ∀ x ∈ bl, byt x := fun x hx => ht.out.range x hx
  have ha := numL_ok (l := bl.take 4) fun x hx => hb1 x (List.mem_of_mem_take hx)
  have hbb := numL_ok (l := bl.drop 4) fun x hx => hb1 x (List.mem_of_mem_drop hx)
  have hrun := runL_ok (key := key) ha hbb 16
  have hRun : Hid (∀ W : World, Gives Tryz.prog 221 #[.agg #[.int .u32 (numL (bl.take 4)), .int .u32 (numL (bl.drop 4))], rksV key] W (.agg #[.int .u32 (runL key (numL (bl.take 4)) (numL (bl.drop 4)) 16).2, .int .u32 (runL key (numL (bl.take 4)) (numL (bl.drop 4)) 16).1])) := fun W => run_any key _ _ W ha hbb
  have henc : Hid (encL key bl = bytes4 (runL key (numL (bl.take 4)) (numL (bl.drop 4)) 16).2 ++ bytes4 (runL key (numL (bl.take 4)) (numL (bl.drop 4)) 16).1) := hid (by rw [encL])
  generalize runL key (numL (bl.take 4)) (numL (bl.drop 4)) 16 = st at *
  obtain ⟨x, y⟩ := st
  obtain ⟨⟨hx0, hx1⟩, ⟨hy0, hy1⟩⟩ := hrun
  simp only at hx0 hx1 hy0 hy1
  have x0 : ∀ W : World, Sem.run Tryz.prog (Instr.index 242 (.agg #[.int .u32 y, .int .u32 x]) (.int .i64 0)) W = .ok (.int .u32 y) W := fun W => by kernel_rfl
  have x1 : ∀ W : World, Sem.run Tryz.prog (Instr.index 242 (.agg #[.int .u32 y, .int .u32 x]) (.int .i64 1)) W = .ok (.int .u32 x) W := fun W => by kernel_rfl
  clear ha hbb hb1
  unfold rksV at hR hRun
  generalize numL (bl.take 4) = n1 at hN1 hRun
  generalize numL (bl.drop 4) = n2 at hN2 hRun
  generalize rkF key 0 = r0 at hR hRun
  generalize rkF key 1 = r1 at hR hRun
  generalize rkF key 2 = r2 at hR hRun
  generalize rkF key 3 = r3 at hR hRun
  generalize rkF key 4 = r4 at hR hRun
  generalize rkF key 5 = r5 at hR hRun
  generalize rkF key 6 = r6 at hR hRun
  generalize rkF key 7 = r7 at hR hRun
  generalize rkF key 8 = r8 at hR hRun
  generalize rkF key 9 = r9 at hR hRun
  generalize rkF key 10 = r10 at hR hRun
  generalize rkF key 11 = r11 at hR hRun
  generalize rkF key 12 = r12 at hR hRun
  generalize rkF key 13 = r13 at hR hRun
  generalize rkF key 14 = r14 at hR hRun
  generalize rkF key 15 = r15 at hR hRun
  go_enter Tryz.func205, Tryz.ntmps205
  go_wp2_with (go_at_call 220; refine (hR.out _ END).go.mono ?_; rintro e w' ⟨rfl, x5, rfl⟩)
  refine gen_world (fun V => Below w.heap.size w V ∧ x5.val.heap.size < V.heap.size ∧ V.cell? ⟨x5.val.heap.size, 0, none⟩ = some (.int .u32 r0) ∧ V.cell? ⟨x5.val.heap.size, 1, none⟩ = some (.int .u32 r1) ∧ V.cell? ⟨x5.val.heap.size, 2, none⟩ = some (.int .u32 r2) ∧ V.cell? ⟨x5.val.heap.size, 3, none⟩ = some (.int .u32 r3) ∧ V.cell? ⟨x5.val.heap.size, 4, none⟩ = some (.int .u32 r4) ∧ V.cell? ⟨x5.val.heap.size, 5, none⟩ = some (.int .u32 r5) ∧ V.cell? ⟨x5.val.heap.size, 6, none⟩ = some (.int .u32 r6) ∧ V.cell? ⟨x5.val.heap.size, 7, none⟩ = some (.int .u32 r7) ∧ V.cell? ⟨x5.val.heap.size, 8, none⟩ = some (.int .u32 r8) ∧ V.cell? ⟨x5.val.heap.size, 9, none⟩ = some (.int .u32 r9) ∧ V.cell? ⟨x5.val.heap.size, 10, none⟩ = some (.int .u32 r10) ∧ V.cell? ⟨x5.val.heap.size, 11, none⟩ = some (.int .u32 r11) ∧ V.cell? ⟨x5.val.heap.size, 12, none⟩ = some (.int .u32 r12) ∧ V.cell? ⟨x5.val.heap.size, 13, none⟩ = some (.int .u32 r13) ∧ V.cell? ⟨x5.val.heap.size, 14, none⟩ = some (.int .u32 r14) ∧ V.cell? ⟨x5.val.heap.size, 15, none⟩ = some (.int .u32 r15)) ⟨ENDX, by simp, by simp, by simp, by simp, by simp, by simp, by simp, by simp, by simp, by simp, by simp, by simp, by simp, by simp, by simp, by simp, by simp⟩ ?_
  rintro V ⟨hbV, hsV, q0, q1, q2, q3, q4, q5, q6, q7, q8, q9, q10, q11, q12, q13, q14, q15⟩
  have HBV := hid hbV
  have hsw := hbV.size
  haveI : InW x5.val.heap.size V := ⟨hsV⟩
  clear hbV hsV
  refine wp_region_ext (by kernel_rfl) (by kernel_rfl) ?_
  (repeat (go_big_quiet_step (first | (go_at_call 222; first | (with_reducible refine (hN1.out _ ?_).at; exact ENDX) | (with_reducible refine (hN2.out _ ?_).at; exact ENDX)) | (go_at_call 221; with_reducible exact (hRun.out _).at))))
  refine wpQuiet_nil ?_
  intro xw
  go_wp2_with fail
  refine wp_loop_rounds 3 ?_
  rw [rounds_succ]
  go_wp2_with (first | (at_builtin; refine wpList_appS _ rfl _ _ 22 rfl w.heap.size 5 (.int .u8 0) 1 1 Tryz.underlying22 infU8 rfl (by decide) (.slice none 0 0) 0 [] rfl (hid (own_nil _ _ _ _)) eByte ⟨some ⟨xw.val.heap.size, 0, none⟩, 4, [y / 16777216, y / 65536 % 256, y / 256 % 256, y % 256]⟩ (hid (bytes_new xw.val [y / 16777216, y / 65536 % 256, y / 256 % 256, y % 256] 5 _ rfl (b4_byt ⟨hy0, hy1⟩) (by simp))) (fun y _ => ⟨rfl, fun u hu => by simp [eByte] at hu; subst hu; rfl⟩) rfl (by unfold maxLen; simp) (by simp) ENDX ?_; intro v1 w1 ho1 hg1 hat1) | fail)
  have hb1 : Hid (Below w.heap.size w w1) := hid ((show Below w.heap.size w (xw.val.alloc _) from ENDX).grown hg1.out ENDX (fun k hk => by cases hk))
  have hs1 := hb1.out.size
  rw [rounds_succ]
  go_wp2_with (first | (at_builtin; refine wpList_appS _ rfl _ _ 22 rfl w.heap.size 5 (.int .u8 0) 1 1 Tryz.underlying22 infU8 rfl (by decide) v1 (0 + 4) ([] ++ [y / 16777216, y / 65536 % 256, y / 256 % 256, y % 256].flatMap eByte.cells) rfl (hid (own_alloc ho1.out _)) eByte ⟨some ⟨w1.heap.size, 0, none⟩, 4, [x / 16777216, x / 65536 % 256, x / 256 % 256, x % 256]⟩ (hid (bytes_new w1 [x / 16777216, x / 65536 % 256, x / 256 % 256, x % 256] 5 _ rfl (b4_byt ⟨hx0, hx1⟩) (by simp))) (fun y _ => ⟨rfl, fun u hu => by simp [eByte] at hu; subst hu; rfl⟩) rfl (by unfold maxLen; simp) (by simp) ENDX ?_; intro v2 w2 ho2 hg2 hat2) | fail)
  have hb2 : Hid (Below w.heap.size w w2) := hid ((show Below w.heap.size w (w1.alloc _) from ENDX).grown hg2.out ENDX (fun k hk => by
    rcases hat1.out with h | h
    · rw [h] at hk; cases hk
    · rw [h] at hk; cases hk; have := xw.size; simp; omega))
  rw [rounds_succ]
  go_wp2_with fail
  have hE : encL key bl = [y / 16777216, y / 65536 % 256, y / 256 % 256, y % 256] ++ [x / 16777216, x / 65536 % 256, x / 256 % 256, x % 256] := by rw [henc.out, b4_eq ⟨hy0, hy1⟩, b4_eq ⟨hx0, hx1⟩]
  have ho := own_eq (n' := (encL key bl).length) (ys := (encL key bl).flatMap eByte.cells) ho2.out (by rw [hE]; rfl) (by rw [hE, List.flatMap_append]; rfl)
  obtain ⟨A, C, rfl, h1, h2⟩ := sl_of_own (E := eByte) ho (fun x _ => rfl) (encL_byt key bl)
  go_returns
  exact ⟨A, C, rfl, h1, hb2.out, fun b o q h => (h2 b o q h).1⟩
theorem encrypt_any (b off c : Nat) (key : List Int) (hk : key.length = 16) (b' off' c' : Nat) (bl : List Int) (hb : bl.length = 8) (w : World) (hs : Hid (Bytes w ⟨some ⟨b, off, none⟩, c, key⟩)) (ht : Hid (Bytes w ⟨some ⟨b', off', none⟩, c', bl⟩)) :
    GivesB Tryz.prog 151 #[.slice (some ⟨b, off, none⟩) 16 c, .slice (some ⟨b', off', none⟩) 8 c'] w (fun v => .tuple #[v, .int .i64 0]) (encL key bl) := by
  unfold GivesB
  have hC := hid (crypt_any b off c key hk b' off' c' bl hb w hs ht)
  go_enter Tryz.func151, Tryz.ntmps151
  go_wp2_with (go_at_call 205; refine hC.out.go.mono ?_; rintro e w' ⟨A, C, x, rfl, rfl, hb, hf⟩)
  go_returns
  exact ⟨A, C, rfl, hb.out, x.below, hf.out⟩
theorem mencrypt_any (b off c : Nat) (key : List Int) (hk : key.length = 16) (b' off' c' : Nat) (bl : List Int) (hb : bl.length = 8) (w : World) (hs : Hid (Bytes w ⟨some ⟨b, off, none⟩, c, key⟩)) (ht : Hid (Bytes w ⟨some ⟨b', off', none⟩, c', bl⟩)) :
    GivesB Tryz.prog 93 #[.slice (some ⟨b, off, none⟩) 16 c, .slice (some ⟨b', off', none⟩) 8 c'] w (fun v => v) (encL key bl) := by
  unfold GivesB
  have hC := hid (encrypt_any b off c key hk b' off' c' bl hb w hs ht)
  go_enter Tryz.func93, Tryz.ntmps93
  go_wp2_with (go_at_call 151; refine hC.out.go.mono ?_; rintro e w' ⟨A, C, x, rfl, rfl, hb, hf⟩)
  go_ret
  exact ⟨A, C, rfl, hb.out, x.below, hf.out⟩
end Go.Proofs.YthagkijplklemaaGreatDoor
end

section
namespace Go.Sc
open Go.RowKit
def xorL (xs ys : List Int) : List Int := List.zipWith (bits .xor .u8) xs ys
theorem xorL_len {xs ys : List Int} (h : xs.length = ys.length) : (xorL xs ys).length = xs.length := by simp [xorL, h]
theorem xorL_at {xs ys : List Int} {k : Nat} {x y : Int} (hx : xs[k]? = some x) (hy : ys[k]? = some y) : (xorL xs ys)[k]? = some (bits .xor .u8 x y) := by
  simp [xorL, List.getElem?_zipWith, hx, hy]
theorem xorL_byt (xs ys : List Int) : ∀ x ∈ xorL xs ys, byt x := by
  intro x hx
  unfold xorL at hx
  obtain ⟨k, hk⟩ := List.getElem?_of_mem hx
  rw [List.getElem?_zipWith] at hk
  split at hk
  · cases hk
    exact ⟨bits_lo_u8 _ _ _, bits_hi_u8 _ _ _⟩
  · cases hk
theorem bytes_held {w : World} {b n : Nat} {f : Nat → Value} {xs : List Int} (h : Held w b n f) (hl : xs.length = n) (hn : n ≤ 1099511627776) (hf : ∀ j x, xs[j]? = some x → f j = .int .u8 x) (hx : ∀ x ∈ xs, byt x) : Bytes w ⟨some ⟨b, 0, none⟩, n, xs⟩ :=
  ⟨by simp only; omega, by simp only; omega, (fun e => by cases e), fun k x hk => ⟨hx x (List.mem_of_getElem? hk), b, 0, rfl, h.1, fun j v hv => by
    have hj : j = 0 := by
      rcases j with _ | j
      · rfl
      · simp [eByte] at hv
    subst hj
    simp [eByte] at hv
    subst hv
    have hlt := (List.getElem?_eq_some_iff.1 hk).1
    simp only at hlt
    rw [Nat.zero_add, Nat.mul_one, Nat.add_zero, (h.2 k (by omega)).1, hf k x hk]⟩⟩
def fillS (zs : List Int) (k j : Nat) : Value := .int .u8 (if j < k then zs[j]?.getD 0 else 0)
theorem fillS_ne (zs : List Int) (k j : Nat) (h : j ≠ k) : fillS zs (k + 1) j = fillS zs k j := by
  unfold fillS
  by_cases e : j < k
  · rw [if_pos e, if_pos (by omega)]
  · rw [if_neg e, if_neg (by omega)]
theorem fillS_at {zs : List Int} {k : Nat} {z : Int} (h : zs[k]? = some z) : fillS zs (k + 1) k = .int .u8 z := by
  unfold fillS
  rw [if_pos (by omega), h]
  rfl
theorem fillS_end {zs : List Int} {k j : Nat} {z : Int} (h : zs[j]? = some z) (hk : j < k) : fillS zs k j = .int .u8 z := by
  unfold fillS
  rw [if_pos hk, h]
  rfl
theorem lt8 {j : Nat} (h : j < 8) : j = 0 ∨ j = 1 ∨ j = 2 ∨ j = 3 ∨ j = 4 ∨ j = 5 ∨ j = 6 ∨ j = 7 := by omega
end Go.Sc
namespace Go.Proofs.YthagkijplklemaaGreatDoor
open Go.ChangeShapes Go.WideShapes Go.ChangeAt Go.RowKit Go.Sc
theorem make8 (w : World) : (Instr.makeSlice 22 (.int .i64 8) (.int .i64 8)).run Tryz.prog w = .ok (.slice (some ⟨w.heap.size, 0, none⟩) 8 8) (w.alloc (.cells #[.int .u8 0, .int .u8 0, .int .u8 0, .int .u8 0, .int .u8 0, .int .u8 0, .int .u8 0, .int .u8 0] 5)) := by kernel_rfl
set_option maxRecDepth 20000 in
set_option maxHeartbeats 1000000 in
theorem xor_any (s t : Sl Int) (hsl : s.xs.length = 8) (htl : t.xs.length = 8) (w : World) (hs : Hid (Bytes w s)) (ht : Hid (Bytes w t)) :
    GivesB Tryz.prog 150 #[s.v, t.v] w (fun v => .tuple #[v, .int .i64 0]) (xorL s.xs t.xs) := by
  obtain ⟨a, c, xs⟩ := s
  obtain ⟨a', c', ys⟩ := t
  simp only at hsl htl
  have hle := hs.out.le
  have hmx := hs.out.max
  have hle' := ht.out.le
  have hmx' := ht.out.max
  simp only [hsl, htl] at hle hmx hle' hmx'
  show GivesB _ _ #[.slice a xs.length c, .slice a' ys.length c'] _ _ _
  rw [hsl, htl]
  have hmk := make8
  unfold GivesB
  go_enter Tryz.func150, Tryz.ntmps150
  go_wp2_with fail
  go_loopw [18] (fun i wr => ∃ k : Nat, k ≤ 8 ∧ i = .int .i64 k ∧ Below w.heap.size w wr ∧ Held wr w.heap.size 8 (fillS (xorL xs ys) k)) (fun i _ => 8 - (intOf i).toNat)
  case atStart =>
    refine ⟨0, Nat.zero_le _, rfl, END, Held.new _ _ _ _ _ ?_⟩
    intro j hj
    rcases lt8 hj with rfl | rfl | rfl | rfl | rfl | rfl | rfl | rfl
    all_goals rfl
  case round =>
    obtain ⟨k, hk, rfl, hbl, h0⟩ := hrel
    have HB := hid hbl
    have H0 := hid h0
    clear hbl h0
    have hsz := H0.out.1
    haveI : InW w.heap.size wr := ⟨hsz⟩
    obtain hlt | rfl : k < 8 ∨ k = 8 := by omega
    · obtain ⟨x, hx⟩ := getElem?_of_lt (show k < xs.length by omega)
      obtain ⟨y, hy⟩ := getElem?_of_lt (show k < ys.length by omega)
      obtain ⟨⟨lx, ux⟩, b, off, hba, hbl, hcx⟩ := hs.out.at_ k x hx
      obtain ⟨⟨ly, uy⟩, b', off', hba', hbl', hcy⟩ := ht.out.at_ k y hy
      simp only at hba hba'
      subst hba
      subst hba'
      have cx : wr.cell? ⟨b, off + k, none⟩ = some (.int .u8 x) := (HB.out.cell (p := ⟨b, off + k, none⟩) hbl).trans (by have := hcx 0 _ rfl; simpa using this)
      have cy : wr.cell? ⟨b', off' + k, none⟩ = some (.int .u8 y) := (HB.out.cell (p := ⟨b', off' + k, none⟩) hbl').trans (by have := hcy 0 _ rfl; simpa using this)
      have cz := (H0.out.2 k hlt).1
      have fz := (H0.out.2 k hlt).2
      have hz := xorL_at hx hy
      have HZ := hid hz
      clear hcx hcy hx hy hz
      have hk1 : (0 : Int) ≤ (k : Int) := by omega
      have hk2 : (k : Int) < 8 := by omega
      go_wp2_with fail
      refine wp_region_still_tail 12 (by kernel_rfl) (by kernel_rfl) ?_
      simp only [List.take_succ_cons, List.take_zero, List.drop_succ_cons, List.drop_zero]
      change wpStill _ _ wr.drew (fun a' => wpList _ _ _ _ a' wr.drew) _ _
      repeat still_step
      refine wpStill_nil ?_
      change wpList _ _ _ _ _ wr.drew
      go_wp2
      exact ⟨⟨k + 1, by omega, by go_num, ENDX, (H0.out.set hlt (fillS_at HZ.out) (fun j e => fillS_ne _ k j e)).drew⟩, by simp [intOf]; omega⟩
    · go_wp2_with fail
      have hlen : (xorL xs ys).length = 8 := (xorL_len (by omega)).trans hsl
      go_returns
      exact ⟨some ⟨w.heap.size, 0, none⟩, 8, by rw [hlen]; rfl, bytes_held H0.out hlen (by omega) (fun j z hz => fillS_end hz (by have := (List.getElem?_eq_some_iff.1 hz).1; omega)) (xorL_byt xs ys), HB.out, fun b o q h => by cases h; exact Nat.le_refl _⟩
set_option maxRecDepth 20000 in
theorem mxor_any (s t : Sl Int) (hsl : s.xs.length = 8) (htl : t.xs.length = 8) (w : World) (hs : Hid (Bytes w s)) (ht : Hid (Bytes w t)) :
    GivesB Tryz.prog 92 #[s.v, t.v] w (fun v => v) (xorL s.xs t.xs) := by
  have hC := hid (xor_any s t hsl htl w hs ht)
  obtain ⟨a, c, xs⟩ := s
  obtain ⟨a', c', ys⟩ := t
  simp only at hC hsl htl ⊢
  generalize xorL xs ys = zs at *
  unfold GivesB
  go_enter Tryz.func92, Tryz.ntmps92
  go_wp2_with (go_at_call 150; refine hC.out.go.mono ?_; rintro e w' ⟨A, C, x, rfl, rfl, hb, hf⟩)
  go_ret
  exact ⟨A, C, rfl, hb.out, x.below, hf.out⟩
end Go.Proofs.YthagkijplklemaaGreatDoor
end

section
namespace Go.Sc
open Go.RowKit
/-- A number as eight bytes. -/
def put8 (n : Int) : List Int := [n / 72057594037927936 % 256, n / 281474976710656 % 256, n / 1099511627776 % 256, n / 4294967296 % 256, n / 16777216 % 256, n / 65536 % 256, n / 256 % 256, n % 256]
theorem put8_byt (n : Int) : ∀ x ∈ put8 n, byt x := by
  intro x hx
  simp only [put8, List.mem_cons, List.not_mem_nil, or_false] at hx
  unfold byt
  omega
end Go.Sc
namespace Go.Proofs.YthagkijplklemaaGreatDoor
open Go.ChangeShapes Go.WideShapes Go.ChangeAt Go.RowKit Go.Sc
set_option maxRecDepth 20000 in
set_option maxHeartbeats 2000000 in
theorem put8_any (n : Int) (h0 : 0 ≤ n) (h1 : n ≤ 1099511627776) (w : World) : GivesB Tryz.prog 87 #[.int .i64 n, .int .i64 8] w (fun v => .tuple #[v, .int .i64 0]) (put8 n) := by
  have hmk := make8
  unfold GivesB
  go_enter Tryz.func87, Tryz.ntmps87
  go_wp2_with fail
  refine wp_loop_rounds 9 ?_
  rw [rounds_succ]
  go_wp2_with fail
  rw [rounds_succ]
  go_wp2_with fail
  rw [rounds_succ]
  go_wp2_with fail
  rw [rounds_succ]
  go_wp2_with fail
  rw [rounds_succ]
  go_wp2_with fail
  rw [rounds_succ]
  go_wp2_with fail
  rw [rounds_succ]
  go_wp2_with fail
  rw [rounds_succ]
  go_wp2_with fail
  rw [rounds_succ]
  go_wp2_with fail
  have hE : put8 n = [n / 72057594037927936, n / 281474976710656, n / 1099511627776, n / 4294967296 % 256, n / 16777216 % 256, n / 65536 % 256, n / 256 % 256, n % 256] := by
    unfold put8
    rw [show n / 72057594037927936 % 256 = n / 72057594037927936 from by omega, show n / 281474976710656 % 256 = n / 281474976710656 from by omega, show n / 1099511627776 % 256 = n / 1099511627776 from by omega]
  have hb := bytes_new w [n / 72057594037927936, n / 281474976710656, n / 1099511627776, n / 4294967296 % 256, n / 16777216 % 256, n / 65536 % 256, n / 256 % 256, n % 256] 5 _ rfl (hE ▸ put8_byt n) (by simp)
  rw [hE]
  go_returns
  exact ⟨some ⟨w.heap.size, 0, none⟩, 8, rfl, hb, END, fun b o q h => by cases h; exact Nat.le_refl _⟩
end Go.Proofs.YthagkijplklemaaGreatDoor
end

section
namespace Go.Sc
open Go.RowKit
def eSl : El (Sl Int) := ⟨fun s => [s.v], fun w s => Bytes w s, fun hb h => h.mono hb⟩
theorem below_own {w w' : World} {B : Nat} {e : TypeId} {m n : Nat} {v : Value} {xs : List Value} {a : World} (h : Below B a w) (hB : B ≤ w.heap.size) (ho : w.ownsRow B e m v n xs) (hg : w.grownBy w' v.ownBlock) : Below B a w' :=
  h.trans ((Gr.of_grown ho hg).below hB)
def catL (l : List (Sl Int)) : List Int := l.flatMap Sl.xs
theorem catL_take {l : List (Sl Int)} {k : Nat} {s : Sl Int} (h : l[k]? = some s) : catL (l.take (k + 1)) = catL (l.take k) ++ s.xs := by
  unfold catL
  rw [List.take_add_one, h, List.flatMap_append]
  simp
theorem catL_le {l : List (Sl Int)} {k : Nat} {s : Sl Int} (h : l[k]? = some s) : (catL (l.take k)).length + s.xs.length ≤ (catL l).length := by
  have e : catL l = catL (l.take (k + 1)) ++ catL (l.drop (k + 1)) := by unfold catL; rw [← List.flatMap_append, List.take_append_drop]
  rw [e, catL_take h]
  simp
end Go.Sc
namespace Go.Proofs.YthagkijplklemaaGreatDoor
open Go.ChangeShapes Go.WideShapes Go.ChangeAt Go.RowKit Go.Sc
set_option maxRecDepth 20000 in
set_option maxHeartbeats 1000000 in
theorem join_own (l : Sl (Sl Int)) (w : World) (hs : Hid (l.Ok eSl 1 w)) (hl : (catL l.xs).length ≤ 1099511627776) :
    Calls Tryz.prog 89 #[l.v] w fun e w' => ∃ v, e = .returned v ∧ w'.ownsRow w.heap.size 5 1 v (catL l.xs).length ((catL l.xs).flatMap eByte.cells) ∧ Below w.heap.size w w' := by
  obtain ⟨a, c, xs⟩ := l
  have hle := hs.out.le
  have hmx := hs.out.max
  simp only at hle hmx hl
  show Calls _ _ #[.slice a xs.length c] _ _
  go_enter Tryz.func89, Tryz.ntmps89
  go_wp2_with fail
  go_loopw [3, 8] (fun o i wr => ∃ k : Nat, k ≤ xs.length ∧ i = .int .i64 k ∧ Below w.heap.size w wr ∧ wr.ownsRow w.heap.size 5 1 o (catL (xs.take k)).length ((catL (xs.take k)).flatMap eByte.cells)) (fun _ i _ => xs.length - (intOf i).toNat)
  case atStart => exact ⟨0, Nat.zero_le _, rfl, Below.refl _ _, own_nil _ _ _ _⟩
  case round =>
    obtain ⟨k, hk, rfl, hbl, ho⟩ := hrel
    have HB := hid hbl
    have HO := hid ho
    have hsz := hbl.size
    clear hbl ho
    by_cases hlt : k < xs.length
    · obtain ⟨y, hy⟩ := getElem?_of_lt hlt
      obtain ⟨hok, b, off, hba, hbl, hcx⟩ := hs.out.at_ k y hy
      simp only at hba
      subst hba
      have cx : wr.cell? ⟨b, off + k, none⟩ = some y.v := (HB.out.cell (p := ⟨b, off + k, none⟩) hbl).trans (by have := hcx 0 _ rfl; simpa using this)
      have hyl : Hid (Bytes wr y) := hid (Sl.Ok.mono (w := w) hok HB.out)
      have HT := hid (catL_take hy)
      have HL := hid (catL_le hy)
      have hyr := hid hyl.out.range
      clear hcx hy hok
      have hk1 : (0 : Int) ≤ (k : Int) := by omega
      have hk2 : (k : Int) < (xs.length : Int) := by omega
      obtain ⟨ya, yc, ys⟩ := y
      go_wp2_with (first | (at_builtin; refine wpList_appS _ rfl _ _ 22 rfl w.heap.size 5 (.int .u8 0) 1 1 Tryz.underlying22 infU8 rfl (by decide) u3 (catL (xs.take k)).length ((catL (xs.take k)).flatMap eByte.cells) rfl HO eByte ⟨ya, yc, ys⟩ hyl (fun y _ => ⟨rfl, fun u hu => by simp [eByte] at hu; subst hu; rfl⟩) rfl (by unfold maxLen; have := HL.out; simp only at this ⊢; omega) (by have := HL.out; simp only at this ⊢; omega) (by omega) ?_; intro v1 w1 ho1 hg1 hat1) | fail)
      go_roundw
      case rel => exact ⟨k + 1, by omega, by go_num, below_own HB.out (by omega) HO.out hg1.out, own_eq ho1.out (by rw [HT.out]; simp) (by rw [HT.out, List.flatMap_append])⟩
      case measure => simp [intOf]; omega
    · go_wp2_with fail
      obtain rfl : k = xs.length := by omega
      have ho := HO.out
      rw [List.take_length] at ho
      go_ret
      exact ⟨_, rfl, ho, HB.out⟩
theorem catL_byt {l : Sl (Sl Int)} {w : World} (hs : l.Ok eSl 1 w) : ∀ x ∈ catL l.xs, byt x := fun x hx => by
  obtain ⟨s, hs1, hs2⟩ := List.mem_flatMap.1 hx
  obtain ⟨j, hj⟩ := List.getElem?_of_mem hs1
  exact Bytes.range (hs.at_ j s hj).1 x hs2
theorem join_any (l : Sl (Sl Int)) (w : World) (hs : Hid (l.Ok eSl 1 w)) (hl : (catL l.xs).length ≤ 1099511627776) : GivesB Tryz.prog 89 #[l.v] w (fun v => v) (catL l.xs) :=
  (join_own l w hs hl).mono fun e w' ⟨v, he, ho, hb⟩ => by
    obtain ⟨A, C, rfl, h1, h2⟩ := sl_of_own (E := eByte) ho (fun x _ => rfl) (catL_byt hs.out)
    exact ⟨A, C, he, h1, hb, fun b o q h => (h2 b o q h).1⟩
end Go.Proofs.YthagkijplklemaaGreatDoor
end

section
namespace Go.Proofs.YthagkijplklemaaGreatDoor
open Go.ChangeShapes Go.WideShapes Go.ChangeAt Go.RowKit Go.Sc
end Go.Proofs.YthagkijplklemaaGreatDoor
end
