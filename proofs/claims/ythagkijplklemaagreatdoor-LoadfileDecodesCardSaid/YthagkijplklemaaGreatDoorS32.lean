/- The program's code.Decode: an instruction. -/
import Derived.Test.YthagkijplklemaaGreatDoorS31
import Derived.LoopN
import Derived.Deep.RegionHeld3
section
namespace Go.Proofs.YthagkijplklemaaGreatDoor
open Go.ChangeShapes Go.WideShapes Go.ChangeAt Go.RowKit Go.Sc
/-- The end of a slice of bytes. -/
theorem slice_tail (s : Sl Int) (k : Nat) (hk : k ≤ s.xs.length) (hm : s.xs.length ≤ s.c) : ∃ s' : Sl Int, (∀ W : World, (Instr.sliceAt 22 (.slice s.a s.xs.length s.c) (some (.int .i64 k)) none none).run Tryz.prog W = .ok (.slice s'.a s'.xs.length s'.c) W) ∧ s'.xs = s.xs.drop k ∧ ∀ W : World, Bytes W s → Bytes W s' := by
  obtain ⟨a, c, xs⟩ := s
  refine ⟨if c = k then ⟨a, 0, xs.drop k⟩ else ⟨a.map (·.add k), c - k, xs.drop k⟩, fun W => ?_, ?_, fun W h => ?_⟩
  · have h0 : (0 : Int) ≤ (k : Int) := by omega
    have h1 : (k : Int) ≤ (xs.length : Int) := by simp only at hk; omega
    by_cases hc : c = k
    · simp [go_sem, hc, h1]
    · simp [go_sem, hc, h1]
  · split <;> rfl
  · split
    · rename_i hc
      have hd : xs.drop k = [] := List.drop_eq_nil_of_le (by simp only at hm; omega)
      rw [hd]
      exact ⟨by simp, by simp, fun _ => rfl, fun j x hx => by simp at hx⟩
    · exact bytes_drop h hk
theorem opP_ok {f x : Int} {l r : List Int} (hf : f ≠ 0) (hl : ∀ y ∈ l, 0 ≤ y ∧ y ≤ 255) (h : opP f l = .ok (x, r)) : ∃ k : Nat, (opN f l).1 = x ∧ (opN f l).2 = k ∧ 1 ≤ k ∧ k ≤ l.length ∧ r = l.drop k ∧ i64ok x := by
  unfold opP at h
  rw [if_neg hf] at h
  unfold opN
  split at h
  · rename_i h1
    rw [if_pos h1]
    split at h
    · rename_i a b c d r'
      cases h
      have q1 := hl a (by simp)
      have q2 := hl b (by simp)
      have q3 := hl c (by simp)
      have q4 := hl d (by simp)
      exact ⟨4, rfl, rfl, by omega, by simp, by simp, by unfold i64ok sgn; split <;> omega⟩
    · cases h
  · rename_i h1
    rw [if_neg h1]
    split at h
    · rename_i a r'
      cases h
      have q1 := hl a (by simp)
      refine ⟨1, rfl, rfl, by omega, by simp, by simp, ?_⟩
      split
      · unfold i64ok sgn; split <;> omega
      · unfold i64ok; omega
    · cases h
theorem opP_err {f c : Int} {l : List Int} (hf : f ≠ 0) (h : opP f l = .error c) : c = 5 ∧ (opN f l).1 = 0 ∧ (opN f l).2 = 0 := by
  unfold opP at h
  rw [if_neg hf] at h
  unfold opN
  by_cases h1 : f = 1
  · rw [if_pos h1] at h ⊢
    rcases l with _ | ⟨x, _ | ⟨y, _ | ⟨z, _ | ⟨u, r⟩⟩⟩⟩
    all_goals first | (cases h; exact ⟨rfl, rfl, rfl⟩) | cases h
  · rw [if_neg h1] at h ⊢
    rcases l with _ | ⟨x, r⟩
    · cases h; exact ⟨rfl, rfl, rfl⟩
    · cases h
theorem frm_pre (op : Int) : ((frm op).1 = 0 → (frm op).2.1 = 0) ∧ ((frm op).2.1 = 0 → (frm op).2.2 = 0) := by
  unfold frm
  repeat' split
  all_goals simp
/-- What the call returns for an instruction. -/
def InsOut (w : World) (s : Sl Int) (r : Except Int (In × List Int)) (e : Ending) (w' : World) : Prop :=
  Below w.heap.size w w' ∧ (∀ i rest, r = .ok (i, rest) → ∃ t : Sl Int, e = .returned (.tuple #[i.v, .slice t.a t.xs.length t.c, .int .i64 0]) ∧ t.xs = rest ∧ (∀ W : World, Bytes W s → Bytes W t) ∧ eIn.ok w' i) ∧
  ∀ c, r = .error c → c ≠ 0 ∧ ∃ (i : In) (t : Sl Int), e = .returned (.tuple #[i.v, .slice t.a t.xs.length t.c, .int .i64 c])
theorem InsOut.bad {w w' : World} {s : Sl Int} {r : Except Int (In × List Int)} {c : Int} (i : In) (t : Sl Int) (hb : Below w.heap.size w w') (h : r = .error c) (hc : c ≠ 0) : InsOut w s r (.returned (.tuple #[i.v, .slice t.a t.xs.length t.c, .int .i64 c])) w' :=
  ⟨hb, fun i' rest h' => (by rw [h] at h'; cases h'), fun d hd => by rw [h] at hd; cases hd; exact ⟨hc, i, t, rfl⟩⟩
theorem InsOut.good {w w' : World} {s : Sl Int} {r : Except Int (In × List Int)} {i : In} {rest : List Int} (t : Sl Int) (hb : Below w.heap.size w w') (h : r = .ok (i, rest)) (ht : t.xs = rest) (hB : ∀ W : World, Bytes W s → Bytes W t) (hi : eIn.ok w' i) : InsOut w s r (.returned (.tuple #[i.v, .slice t.a t.xs.length t.c, .int .i64 0])) w' :=
  ⟨hb, fun i' rest' h' => (by rw [h] at h'; cases h'; exact ⟨t, rfl, ht, hB, hi⟩), fun d hd => by rw [h] at hd; cases hd⟩
theorem i64_0 : i64ok 0 := ⟨by omega, by omega⟩
theorem i64_b {n : Int} (h1 : 0 ≤ n) (h2 : n ≤ 255) : i64ok n := ⟨by omega, by omega⟩
theorem ins_end (i : In) (l : List Int) : (if insE i = 0 then Rr.pure i else Rr.fail (insE i)) l = if insE i = 0 then .ok (i, l) else .error (insE i) := by split <;> rfl
set_option maxRecDepth 20000 in
set_option maxHeartbeats 8000000 in
theorem instr_any (s : Sl Int) (w : World) (o : Int) (r : List Int) (hs : Hid (Bytes w s)) (hx : Hid (s.xs = o :: r)) : Calls Tryz.prog 219 #[s.v] w (InsOut w s (insP s.xs)) := by
  obtain ⟨a, c, xs⟩ := s
  have hle := hs.out.le
  have hmx := hs.out.max
  have hlen : 1 ≤ xs.length := by have := hx.out; simp only at this; rw [this]; simp
  simp only at hle hmx
  obtain ⟨p1, b, off, ha, hbl, c0⟩ := hs.out.at_ 0 o (by rw [hx.out]; rfl)
  simp only at ha
  subst ha
  have d0 := c0 0 _ rfl
  simp only [Nat.zero_mul, Nat.add_zero] at d0
  have o1 := p1.1
  have o2 := p1.2
  haveI : InW b w := ⟨hbl⟩
  obtain ⟨s1, hr1, hd1, hB1⟩ := slice_tail ⟨some ⟨b, off, none⟩, c, xs⟩ 1 hlen hle
  simp only at hr1
  have HD1 : Hid (s1.xs = r) := hid (by rw [hd1, hx.out]; rfl)
  have HB1 := hid hB1
  have hr1' : ∀ W : World, (Instr.sliceAt 22 (.slice (some ⟨b, off, none⟩) xs.length c) (some (.int .i64 1)) none none).run Tryz.prog W = .ok (.slice s1.a s1.xs.length s1.c) W := hr1
  have HO : Hid (insP xs = if 54 ≤ o then .error 4 else ((opP (frm o).1).bind fun a => (opP (frm o).2.1).bind fun b => (opP (frm o).2.2).bind fun c => if insE ⟨o, a, b, c⟩ = 0 then Rr.pure ⟨o, a, b, c⟩ else Rr.fail (insE ⟨o, a, b, c⟩)) r) := by
    have : insP xs = if 54 ≤ o then .error 4 else ((opP (frm o).1).bind fun a => (opP (frm o).2.1).bind fun b => (opP (frm o).2.2).bind fun c => if insE ⟨o, a, b, c⟩ = 0 then Rr.pure ⟨o, a, b, c⟩ else Rr.fail (insE ⟨o, a, b, c⟩)) r := by
      have e : xs = o :: r := hx.out
      rw [e]
      unfold insP
      rw [Rr.bind_ok (show numP (o :: r) = .ok (o, r) from rfl)]
      split <;> rfl
    exact this
  clear c0 p1 hr1 hd1 hB1
  have hl0 : (0 : Int) < (xs.length : Int) := by omega
  show Calls _ _ #[.slice (some ⟨b, off, none⟩) xs.length c] _ (InsOut w ⟨some ⟨b, off, none⟩, c, xs⟩ (insP xs))
  by_cases h54 : 54 ≤ o
  · have HE : Hid (insP xs = .error 4) := hid (by rw [HO.out, if_pos h54])
    go_enter Tryz.func219, Tryz.ntmps219
    go_wp2_with fail
    go_returns
    exact InsOut.bad ⟨0, 0, 0, 0⟩ ⟨none, 0, []⟩ END HE.out (by omega)
  · have HE := hid (HO.out.trans (if_neg h54))
    clear HO
    obtain ⟨A, hA⟩ : ∃ A, A = (frm o).1 := ⟨_, rfl⟩
    obtain ⟨D, hD⟩ : ∃ A, A = (frm o).2.1 := ⟨_, rfl⟩
    obtain ⟨C, hC⟩ : ∃ A, A = (frm o).2.2 := ⟨_, rfl⟩
    have hpre := frm_pre o
    have HFO : Hid (∀ W : World, Gives Tryz.prog 218 #[.int .i64 o] W (.agg #[.int .i64 A, .int .i64 D, .int .i64 C])) := fun W => by rw [hA, hD, hC]; exact formOf_any o W
    rw [← hA, ← hD, ← hC] at HE
    rw [← hA, ← hD, ← hC] at hpre
    clear hA hD hC
    have x0 : ∀ W : World, Sem.run Tryz.prog (Instr.index 233 (.agg #[.int .i64 A, .int .i64 D, .int .i64 C]) (.int .i64 0)) W = .ok (.int .i64 A) W := fun W => by kernel_rfl
    have x1 : ∀ W : World, Sem.run Tryz.prog (Instr.index 233 (.agg #[.int .i64 A, .int .i64 D, .int .i64 C]) (.int .i64 1)) W = .ok (.int .i64 D) W := fun W => by kernel_rfl
    have x2 : ∀ W : World, Sem.run Tryz.prog (Instr.index 233 (.agg #[.int .i64 A, .int .i64 D, .int .i64 C]) (.int .i64 2)) W = .ok (.int .i64 C) W := fun W => by kernel_rfl
    by_cases hA : A = 0
    · obtain rfl := hA
      obtain rfl : D = 0 := hpre.1 rfl
      obtain rfl : C = 0 := hpre.2 rfl
      clear hpre
      go_enter Tryz.func219, Tryz.ntmps219
      go_wp2_with (first | (go_at_call 218; refine (HFO.out _).go.mono ?_; rintro e w' ⟨rfl, xw, rfl⟩) | fail)
      refine wp_loop_rounds 4 ?_
      rw [rounds_succ]
      go_wp2_with fail
      rw [rounds_succ]
      go_wp2_with fail
      rw [rounds_succ]
      go_wp2_with fail
      rw [rounds_succ]
      go_wp2_with fail
      have HBt := HB1
      have hxs := xw.size
      (try simp at hxs)
      have hne1 : ¬ w.heap.size = xw.val.heap.size := by omega
      have hne2 : ¬ xw.val.heap.size = w.heap.size := by omega
      haveI : InW w.heap.size xw.val := ⟨by omega⟩
      have hch : insP xs = (if insE ⟨o, 0, 0, 0⟩ = 0 then Rr.pure ⟨o, 0, 0, 0⟩ else Rr.fail (insE ⟨o, 0, 0, 0⟩)) s1.xs := by rw [HD1.out]; exact HE.out
      have HCH := hid hch
      clear hch
      obtain ⟨E, hE⟩ : ∃ E, E = insE ⟨o, 0, 0, 0⟩ := ⟨_, rfl⟩
      have HX : Hid (insP xs = if E = 0 then .ok (⟨o, 0, 0, 0⟩, (s1).xs) else .error E) := hid (by rw [hE]; exact HCH.out.trans (ins_end _ _))
      have HCk : Hid (∀ W : World, Gives Tryz.prog 212 #[.agg #[.int .i64 o, .int .i64 0, .int .i64 0, .int .i64 0]] W (.int .i64 E)) := fun W => by rw [hE]; exact codeCheck_any ⟨o, 0, 0, 0⟩ W
      clear hE
      go_region_held3 (fun w' => w'.cell? ⟨xw.val.heap.size, 0, none⟩ = some (.int .i64 o) ∧ w'.cell? ⟨xw.val.heap.size, 1, none⟩ = some (.int .i64 0) ∧ w'.cell? ⟨xw.val.heap.size, 2, none⟩ = some (.int .i64 0) ∧ w'.cell? ⟨xw.val.heap.size, 3, none⟩ = some (.int .i64 0)) (first | (go_keep) | (refine ⟨?_, ?_, ?_, ?_⟩ <;> first | (simp [Ext.cell]; done) | (simp [Ext.cell, alloc_cell_in]; done))) (first | (go_at_call 212; refine (HCk.out _).go.mono ?_; rintro e w' ⟨rfl, xw, rfl⟩))
      go_wp2_with fail
      go_returns
      by_cases zE : E = 0
      · obtain rfl := zE
        refine InsOut.good (i := ⟨o, 0, 0, 0⟩) (rest := (s1).xs) s1 ENDX (by rw [HX.out, if_pos rfl]) rfl ?_ ⟨i64_b o1 o2, i64_0, i64_0, i64_0⟩
        exact HBt.out
      · exact InsOut.bad ⟨o, 0, 0, 0⟩ s1 ENDX (by rw [HX.out, if_neg zE]) zE
    · have hA' : (A == 0) = false := by simp [hA]
      rw [← HD1.out] at HE
      cases hop : opP A s1.xs with
      | error c =>
        have HS : Hid (insP xs = .error c) := hid (HE.out.trans (Rr.bind_err hop))
        obtain ⟨rfl, e1, e2⟩ := opP_err hA hop
        have hOp : Hid (∀ W : World, Below w.heap.size w W → Gives Tryz.prog 225 #[.int .i64 A, .slice s1.a s1.xs.length s1.c] W (.tuple #[.int .i64 0, .int .i64 0])) := fun W hb => by
          have := operand_any A s1 W ((HB1.out w hs.out).mono hb)
          rwa [e1, e2] at this
        clear e1 e2 hop
        clear hpre
        go_enter Tryz.func219, Tryz.ntmps219
        go_wp2_with (first | (go_at_call 218; refine (HFO.out _).go.mono ?_; rintro e w' ⟨rfl, xw, rfl⟩; have hsx := xw.size; (try simp at hsx)) | fail)
        refine wp_loop_rounds 4 ?_
        rw [rounds_succ]
        go_wp2_with (first | (go_at_call 225; refine (hOp.out _ ENDX).go.mono ?_; rintro e w' ⟨rfl, xw, rfl⟩; have hsx := xw.size; (try simp at hsx)) | fail)
        go_returns
        exact InsOut.bad ⟨0, 0, 0, 0⟩ ⟨none, 0, []⟩ ENDX (HS).out (by omega)
      | ok z =>
        obtain ⟨x, r1⟩ := z
        have HS1 := hid (HE.out.trans (Rr.bind_ok hop))
        obtain ⟨k, e1, e2, hk1k, hk2k, hr1k, hxok⟩ := opP_ok hA (HB1.out w hs.out).range hop
        obtain ⟨s2, hr2k, hd2, hB2⟩ := slice_tail s1 k hk2k ((HB1.out w hs.out).le)
        have hOp : Hid (∀ W : World, Below w.heap.size w W → Gives Tryz.prog 225 #[.int .i64 A, .slice s1.a s1.xs.length s1.c] W (.tuple #[.int .i64 x, .int .i64 k])) := fun W hb => by
          have := operand_any A s1 W ((HB1.out w hs.out).mono hb)
          rwa [e1, e2] at this
        have HD2 : Hid (s2.xs = r1) := hid (hd2.trans hr1k.symm)
        have HB2 := hid fun W h => hB2 W (HB1.out W h)
        have hkzk : ((k : Int) == 0) = false := by simp; omega
        have HXO := hid hxok
        clear e1 e2 hop hB2 hd2 hr1k hxok
        by_cases hD : D = 0
        · obtain rfl := hD
          obtain rfl : C = 0 := hpre.2 rfl
          have HCH : Hid (insP xs = (if insE ⟨o, x, 0, 0⟩ = 0 then Rr.pure ⟨o, x, 0, 0⟩ else Rr.fail (insE ⟨o, x, 0, 0⟩)) s2.xs) := hid (by rw [HD2.out]; exact HS1.out)
          clear hpre
          go_enter Tryz.func219, Tryz.ntmps219
          go_wp2_with (first | (go_at_call 218; refine (HFO.out _).go.mono ?_; rintro e w' ⟨rfl, xw, rfl⟩; have hsx := xw.size; (try simp at hsx)) | fail)
          refine wp_loop_rounds 4 ?_
          rw [rounds_succ]
          go_wp2_with (first | (go_at_call 225; refine (hOp.out _ ENDX).go.mono ?_; rintro e w' ⟨rfl, xw, rfl⟩; have hsx := xw.size; (try simp at hsx)) | fail)
          go_region_held3 (fun _ => True) (trivial) (fail)
          go_wp2_with fail
          rw [rounds_succ]
          go_wp2_with fail
          rw [rounds_succ]
          go_wp2_with fail
          rw [rounds_succ]
          have hbV : Below w.heap.size w ((xw.val.setCell ⟨w.heap.size + 1, 0, none⟩ (.int .i64 x)).drew) := ENDX
          have hsV : w.heap.size + 2 ≤ ((xw.val.setCell ⟨w.heap.size + 1, 0, none⟩ (.int .i64 x)).drew).heap.size := by simp; omega
          have q0 : ((xw.val.setCell ⟨w.heap.size + 1, 0, none⟩ (.int .i64 x)).drew).cell? ⟨w.heap.size + 1, 0, none⟩ = some (.int .i64 x) := by simp [go_sem]
          have q1 : ((xw.val.setCell ⟨w.heap.size + 1, 0, none⟩ (.int .i64 x)).drew).cell? ⟨w.heap.size + 1, 1, none⟩ = some (.int .i64 0) := by simp [go_sem]
          have q2 : ((xw.val.setCell ⟨w.heap.size + 1, 0, none⟩ (.int .i64 x)).drew).cell? ⟨w.heap.size + 1, 2, none⟩ = some (.int .i64 0) := by simp [go_sem]
          have t0 : ((xw.val.setCell ⟨w.heap.size + 1, 0, none⟩ (.int .i64 x)).drew).cell? ⟨w.heap.size, 0, none⟩ = some (.int .i64 0) := by simp [go_sem]
          have t1 : ((xw.val.setCell ⟨w.heap.size + 1, 0, none⟩ (.int .i64 x)).drew).cell? ⟨w.heap.size, 1, none⟩ = some (.int .i64 0) := by simp [go_sem]
          have t2 : ((xw.val.setCell ⟨w.heap.size + 1, 0, none⟩ (.int .i64 x)).drew).cell? ⟨w.heap.size, 2, none⟩ = some (.int .i64 0) := by simp [go_sem]
          have t3 : ((xw.val.setCell ⟨w.heap.size + 1, 0, none⟩ (.int .i64 x)).drew).cell? ⟨w.heap.size, 3, none⟩ = some (.int .i64 0) := by simp [go_sem]
          have f0 : ((xw.val.setCell ⟨w.heap.size + 1, 0, none⟩ (.int .i64 x)).drew).frozen? ⟨w.heap.size, 0, none⟩ = false := by simp [go_sem]
          have f1 : ((xw.val.setCell ⟨w.heap.size + 1, 0, none⟩ (.int .i64 x)).drew).frozen? ⟨w.heap.size, 1, none⟩ = false := by simp [go_sem]
          have f2 : ((xw.val.setCell ⟨w.heap.size + 1, 0, none⟩ (.int .i64 x)).drew).frozen? ⟨w.heap.size, 2, none⟩ = false := by simp [go_sem]
          have f3 : ((xw.val.setCell ⟨w.heap.size + 1, 0, none⟩ (.int .i64 x)).drew).frozen? ⟨w.heap.size, 3, none⟩ = false := by simp [go_sem]
          obtain ⟨V, hV⟩ : ∃ V, V = ((xw.val.setCell ⟨w.heap.size + 1, 0, none⟩ (.int .i64 x)).drew) := ⟨_, rfl⟩
          rw [← hV] at hbV hsV q0 q1 q2 t0 t1 t2 t3 f0 f1 f2 f3 ⊢
          clear hV
          have HBV := hid hbV
          clear hbV
          have hne1 : ¬ w.heap.size = V.heap.size := by omega
          have hne2 : ¬ V.heap.size = w.heap.size := by omega
          haveI : InW w.heap.size V := ⟨by omega⟩
          haveI : InW (w.heap.size + 1) V := ⟨by omega⟩
          go_wp2_with fail
          have HBt := HB2
          obtain ⟨E, hE⟩ : ∃ E, E = insE ⟨o, x, 0, 0⟩ := ⟨_, rfl⟩
          have HX : Hid (insP xs = if E = 0 then .ok (⟨o, x, 0, 0⟩, (s2).xs) else .error E) := hid (by rw [hE]; exact HCH.out.trans (ins_end _ _))
          have HCk : Hid (∀ W : World, Gives Tryz.prog 212 #[.agg #[.int .i64 o, .int .i64 x, .int .i64 0, .int .i64 0]] W (.int .i64 E)) := fun W => by rw [hE]; exact codeCheck_any ⟨o, x, 0, 0⟩ W
          clear hE
          go_region_held3 (fun w' => w'.cell? ⟨V.heap.size, 0, none⟩ = some (.int .i64 o) ∧ w'.cell? ⟨V.heap.size, 1, none⟩ = some (.int .i64 x) ∧ w'.cell? ⟨V.heap.size, 2, none⟩ = some (.int .i64 0) ∧ w'.cell? ⟨V.heap.size, 3, none⟩ = some (.int .i64 0)) (first | (go_keep) | (refine ⟨?_, ?_, ?_, ?_⟩ <;> first | (simp [Ext.cell]; done) | (simp [Ext.cell, alloc_cell_in]; done))) (first | (go_at_call 212; refine (HCk.out _).go.mono ?_; rintro e w' ⟨rfl, xw, rfl⟩))
          go_wp2_with fail
          refine bodyPost_ret (by simp [results, Tryz.results219, go_sem, t0, t1, t2, t3]; try rfl) rfl ?_
          by_cases zE : E = 0
          · obtain rfl := zE
            refine InsOut.good (i := ⟨o, x, 0, 0⟩) (rest := (s2).xs) s2 ENDX (by rw [HX.out, if_pos rfl]) rfl ?_ ⟨i64_b o1 o2, HXO.out, i64_0, i64_0⟩
            exact HBt.out
          · exact InsOut.bad ⟨o, x, 0, 0⟩ s2 ENDX (by rw [HX.out, if_neg zE]) zE
        · have hD' : (D == 0) = false := by simp [hD]
          rw [← HD2.out] at HS1
          cases hop : opP D s2.xs with
          | error c =>
            have HS : Hid (insP xs = .error c) := hid (HS1.out.trans (Rr.bind_err hop))
            obtain ⟨rfl, e1, e2⟩ := opP_err hD hop
            have hOp2 : Hid (∀ W : World, Below w.heap.size w W → Gives Tryz.prog 225 #[.int .i64 D, .slice s2.a s2.xs.length s2.c] W (.tuple #[.int .i64 0, .int .i64 0])) := fun W hb => by
              have := operand_any D s2 W ((HB2.out w hs.out).mono hb)
              rwa [e1, e2] at this
            clear e1 e2 hop
            clear hpre
            go_enter Tryz.func219, Tryz.ntmps219
            go_wp2_with (first | (go_at_call 218; refine (HFO.out _).go.mono ?_; rintro e w' ⟨rfl, xw, rfl⟩; have hsx := xw.size; (try simp at hsx)) | fail)
            refine wp_loop_rounds 4 ?_
            rw [rounds_succ]
            go_wp2_with (first | (go_at_call 225; refine (hOp.out _ ENDX).go.mono ?_; rintro e w' ⟨rfl, xw, rfl⟩; have hsx := xw.size; (try simp at hsx)) | fail)
            go_region_held3 (fun _ => True) (trivial) (fail)
            go_wp2_with fail
            rw [rounds_succ]
            go_wp2_with (first | (go_at_call 225; refine (hOp2.out _ ENDX).go.mono ?_; rintro e w' ⟨rfl, xw, rfl⟩; have hsx := xw.size; (try simp at hsx)) | fail)
            go_returns
            exact InsOut.bad ⟨0, 0, 0, 0⟩ ⟨none, 0, []⟩ ENDX (HS).out (by omega)
          | ok z =>
            obtain ⟨y, r2⟩ := z
            have HS2 := hid (HS1.out.trans (Rr.bind_ok hop))
            obtain ⟨l, e1, e2, hk1l, hk2l, hr1l, hxok⟩ := opP_ok hD (HB2.out w hs.out).range hop
            obtain ⟨s3, hr2l, hd2, hB2⟩ := slice_tail s2 l hk2l ((HB2.out w hs.out).le)
            have hOp2 : Hid (∀ W : World, Below w.heap.size w W → Gives Tryz.prog 225 #[.int .i64 D, .slice s2.a s2.xs.length s2.c] W (.tuple #[.int .i64 y, .int .i64 l])) := fun W hb => by
              have := operand_any D s2 W ((HB2.out w hs.out).mono hb)
              rwa [e1, e2] at this
            have HD3 : Hid (s3.xs = r2) := hid (hd2.trans hr1l.symm)
            have HB3 := hid fun W h => hB2 W (HB2.out W h)
            have hkzl : ((l : Int) == 0) = false := by simp; omega
            have HYO := hid hxok
            clear e1 e2 hop hB2 hd2 hr1l hxok
            clear hpre
            by_cases hC : C = 0
            · obtain rfl := hC
              have HCH : Hid (insP xs = (if insE ⟨o, x, y, 0⟩ = 0 then Rr.pure ⟨o, x, y, 0⟩ else Rr.fail (insE ⟨o, x, y, 0⟩)) s3.xs) := hid (by rw [HD3.out]; exact HS2.out)
              go_enter Tryz.func219, Tryz.ntmps219
              go_wp2_with (first | (go_at_call 218; refine (HFO.out _).go.mono ?_; rintro e w' ⟨rfl, xw, rfl⟩; have hsx := xw.size; (try simp at hsx)) | fail)
              refine wp_loop_rounds 4 ?_
              rw [rounds_succ]
              go_wp2_with (first | (go_at_call 225; refine (hOp.out _ ENDX).go.mono ?_; rintro e w' ⟨rfl, xw, rfl⟩; have hsx := xw.size; (try simp at hsx)) | fail)
              go_region_held3 (fun _ => True) (trivial) (fail)
              go_wp2_with fail
              rw [rounds_succ]
              go_wp2_with (first | (go_at_call 225; refine (hOp2.out _ ENDX).go.mono ?_; rintro e w' ⟨rfl, xw, rfl⟩; have hsx := xw.size; (try simp at hsx)) | fail)
              go_region_held3 (fun _ => True) (trivial) (fail)
              go_wp2_with fail
              rw [rounds_succ]
              go_wp2_with fail
              rw [rounds_succ]
              have hbV : Below w.heap.size w ((xw.val.setCell ⟨w.heap.size + 1, 1, none⟩ (.int .i64 y)).drew) := ENDX
              have hsV : w.heap.size + 2 ≤ ((xw.val.setCell ⟨w.heap.size + 1, 1, none⟩ (.int .i64 y)).drew).heap.size := by simp; omega
              have q0 : ((xw.val.setCell ⟨w.heap.size + 1, 1, none⟩ (.int .i64 y)).drew).cell? ⟨w.heap.size + 1, 0, none⟩ = some (.int .i64 x) := by simp [go_sem]
              have q1 : ((xw.val.setCell ⟨w.heap.size + 1, 1, none⟩ (.int .i64 y)).drew).cell? ⟨w.heap.size + 1, 1, none⟩ = some (.int .i64 y) := by simp [go_sem]
              have q2 : ((xw.val.setCell ⟨w.heap.size + 1, 1, none⟩ (.int .i64 y)).drew).cell? ⟨w.heap.size + 1, 2, none⟩ = some (.int .i64 0) := by simp [go_sem]
              have t0 : ((xw.val.setCell ⟨w.heap.size + 1, 1, none⟩ (.int .i64 y)).drew).cell? ⟨w.heap.size, 0, none⟩ = some (.int .i64 0) := by simp [go_sem]
              have t1 : ((xw.val.setCell ⟨w.heap.size + 1, 1, none⟩ (.int .i64 y)).drew).cell? ⟨w.heap.size, 1, none⟩ = some (.int .i64 0) := by simp [go_sem]
              have t2 : ((xw.val.setCell ⟨w.heap.size + 1, 1, none⟩ (.int .i64 y)).drew).cell? ⟨w.heap.size, 2, none⟩ = some (.int .i64 0) := by simp [go_sem]
              have t3 : ((xw.val.setCell ⟨w.heap.size + 1, 1, none⟩ (.int .i64 y)).drew).cell? ⟨w.heap.size, 3, none⟩ = some (.int .i64 0) := by simp [go_sem]
              have f0 : ((xw.val.setCell ⟨w.heap.size + 1, 1, none⟩ (.int .i64 y)).drew).frozen? ⟨w.heap.size, 0, none⟩ = false := by simp [go_sem]
              have f1 : ((xw.val.setCell ⟨w.heap.size + 1, 1, none⟩ (.int .i64 y)).drew).frozen? ⟨w.heap.size, 1, none⟩ = false := by simp [go_sem]
              have f2 : ((xw.val.setCell ⟨w.heap.size + 1, 1, none⟩ (.int .i64 y)).drew).frozen? ⟨w.heap.size, 2, none⟩ = false := by simp [go_sem]
              have f3 : ((xw.val.setCell ⟨w.heap.size + 1, 1, none⟩ (.int .i64 y)).drew).frozen? ⟨w.heap.size, 3, none⟩ = false := by simp [go_sem]
              obtain ⟨V, hV⟩ : ∃ V, V = ((xw.val.setCell ⟨w.heap.size + 1, 1, none⟩ (.int .i64 y)).drew) := ⟨_, rfl⟩
              rw [← hV] at hbV hsV q0 q1 q2 t0 t1 t2 t3 f0 f1 f2 f3 ⊢
              clear hV
              have HBV := hid hbV
              clear hbV
              have hne1 : ¬ w.heap.size = V.heap.size := by omega
              have hne2 : ¬ V.heap.size = w.heap.size := by omega
              haveI : InW w.heap.size V := ⟨by omega⟩
              haveI : InW (w.heap.size + 1) V := ⟨by omega⟩
              go_wp2_with fail
              have HBt := HB3
              obtain ⟨E, hE⟩ : ∃ E, E = insE ⟨o, x, y, 0⟩ := ⟨_, rfl⟩
              have HX : Hid (insP xs = if E = 0 then .ok (⟨o, x, y, 0⟩, (s3).xs) else .error E) := hid (by rw [hE]; exact HCH.out.trans (ins_end _ _))
              have HCk : Hid (∀ W : World, Gives Tryz.prog 212 #[.agg #[.int .i64 o, .int .i64 x, .int .i64 y, .int .i64 0]] W (.int .i64 E)) := fun W => by rw [hE]; exact codeCheck_any ⟨o, x, y, 0⟩ W
              clear hE
              go_region_held3 (fun w' => w'.cell? ⟨V.heap.size, 0, none⟩ = some (.int .i64 o) ∧ w'.cell? ⟨V.heap.size, 1, none⟩ = some (.int .i64 x) ∧ w'.cell? ⟨V.heap.size, 2, none⟩ = some (.int .i64 y) ∧ w'.cell? ⟨V.heap.size, 3, none⟩ = some (.int .i64 0)) (first | (go_keep) | (refine ⟨?_, ?_, ?_, ?_⟩ <;> first | (simp [Ext.cell]; done) | (simp [Ext.cell, alloc_cell_in]; done))) (first | (go_at_call 212; refine (HCk.out _).go.mono ?_; rintro e w' ⟨rfl, xw, rfl⟩))
              go_wp2_with fail
              refine bodyPost_ret (by simp [results, Tryz.results219, go_sem, t0, t1, t2, t3]; try rfl) rfl ?_
              by_cases zE : E = 0
              · obtain rfl := zE
                refine InsOut.good (i := ⟨o, x, y, 0⟩) (rest := (s3).xs) s3 ENDX (by rw [HX.out, if_pos rfl]) rfl ?_ ⟨i64_b o1 o2, HXO.out, HYO.out, i64_0⟩
                exact HBt.out
              · exact InsOut.bad ⟨o, x, y, 0⟩ s3 ENDX (by rw [HX.out, if_neg zE]) zE
            · have hC' : (C == 0) = false := by simp [hC]
              rw [← HD3.out] at HS2
              cases hop : opP C s3.xs with
              | error c =>
                have HS : Hid (insP xs = .error c) := hid (HS2.out.trans (Rr.bind_err hop))
                obtain ⟨rfl, e1, e2⟩ := opP_err hC hop
                have hOp3 : Hid (∀ W : World, Below w.heap.size w W → Gives Tryz.prog 225 #[.int .i64 C, .slice s3.a s3.xs.length s3.c] W (.tuple #[.int .i64 0, .int .i64 0])) := fun W hb => by
                  have := operand_any C s3 W ((HB3.out w hs.out).mono hb)
                  rwa [e1, e2] at this
                clear e1 e2 hop
                go_enter Tryz.func219, Tryz.ntmps219
                go_wp2_with (first | (go_at_call 218; refine (HFO.out _).go.mono ?_; rintro e w' ⟨rfl, xw, rfl⟩; have hsx := xw.size; (try simp at hsx)) | fail)
                refine wp_loop_rounds 4 ?_
                rw [rounds_succ]
                go_wp2_with (first | (go_at_call 225; refine (hOp.out _ ENDX).go.mono ?_; rintro e w' ⟨rfl, xw, rfl⟩; have hsx := xw.size; (try simp at hsx)) | fail)
                go_region_held3 (fun _ => True) (trivial) (fail)
                go_wp2_with fail
                rw [rounds_succ]
                go_wp2_with (first | (go_at_call 225; refine (hOp2.out _ ENDX).go.mono ?_; rintro e w' ⟨rfl, xw, rfl⟩; have hsx := xw.size; (try simp at hsx)) | fail)
                go_region_held3 (fun _ => True) (trivial) (fail)
                go_wp2_with fail
                rw [rounds_succ]
                go_wp2_with (first | (go_at_call 225; refine (hOp3.out _ ENDX).go.mono ?_; rintro e w' ⟨rfl, xw, rfl⟩; have hsx := xw.size; (try simp at hsx)) | fail)
                go_returns
                exact InsOut.bad ⟨0, 0, 0, 0⟩ ⟨none, 0, []⟩ ENDX (HS).out (by omega)
              | ok z =>
                obtain ⟨z, r3⟩ := z
                have HS3 := hid (HS2.out.trans (Rr.bind_ok hop))
                obtain ⟨m, e1, e2, hk1m, hk2m, hr1m, hxok⟩ := opP_ok hC (HB3.out w hs.out).range hop
                obtain ⟨s4, hr2m, hd2, hB2⟩ := slice_tail s3 m hk2m ((HB3.out w hs.out).le)
                have hOp3 : Hid (∀ W : World, Below w.heap.size w W → Gives Tryz.prog 225 #[.int .i64 C, .slice s3.a s3.xs.length s3.c] W (.tuple #[.int .i64 z, .int .i64 m])) := fun W hb => by
                  have := operand_any C s3 W ((HB3.out w hs.out).mono hb)
                  rwa [e1, e2] at this
                have HD4 : Hid (s4.xs = r3) := hid (hd2.trans hr1m.symm)
                have HB4 := hid fun W h => hB2 W (HB3.out W h)
                have hkzm : ((m : Int) == 0) = false := by simp; omega
                have HZO := hid hxok
                clear e1 e2 hop hB2 hd2 hr1m hxok
                have HCH : Hid (insP xs = (if insE ⟨o, x, y, z⟩ = 0 then Rr.pure ⟨o, x, y, z⟩ else Rr.fail (insE ⟨o, x, y, z⟩)) s4.xs) := hid (by rw [HD4.out]; exact HS3.out)
                go_enter Tryz.func219, Tryz.ntmps219
                go_wp2_with (first | (go_at_call 218; refine (HFO.out _).go.mono ?_; rintro e w' ⟨rfl, xw, rfl⟩; have hsx := xw.size; (try simp at hsx)) | fail)
                refine wp_loop_rounds 4 ?_
                rw [rounds_succ]
                go_wp2_with (first | (go_at_call 225; refine (hOp.out _ ENDX).go.mono ?_; rintro e w' ⟨rfl, xw, rfl⟩; have hsx := xw.size; (try simp at hsx)) | fail)
                go_region_held3 (fun _ => True) (trivial) (fail)
                go_wp2_with fail
                rw [rounds_succ]
                go_wp2_with (first | (go_at_call 225; refine (hOp2.out _ ENDX).go.mono ?_; rintro e w' ⟨rfl, xw, rfl⟩; have hsx := xw.size; (try simp at hsx)) | fail)
                go_region_held3 (fun _ => True) (trivial) (fail)
                go_wp2_with fail
                rw [rounds_succ]
                go_wp2_with (first | (go_at_call 225; refine (hOp3.out _ ENDX).go.mono ?_; rintro e w' ⟨rfl, xw, rfl⟩; have hsx := xw.size; (try simp at hsx)) | fail)
                go_region_held3 (fun _ => True) (trivial) (fail)
                go_wp2_with fail
                rw [rounds_succ]
                have hbV : Below w.heap.size w ((xw.val.setCell ⟨w.heap.size + 1, 2, none⟩ (.int .i64 z)).drew) := ENDX
                have hsV : w.heap.size + 2 ≤ ((xw.val.setCell ⟨w.heap.size + 1, 2, none⟩ (.int .i64 z)).drew).heap.size := by simp; omega
                have q0 : ((xw.val.setCell ⟨w.heap.size + 1, 2, none⟩ (.int .i64 z)).drew).cell? ⟨w.heap.size + 1, 0, none⟩ = some (.int .i64 x) := by simp [go_sem]
                have q1 : ((xw.val.setCell ⟨w.heap.size + 1, 2, none⟩ (.int .i64 z)).drew).cell? ⟨w.heap.size + 1, 1, none⟩ = some (.int .i64 y) := by simp [go_sem]
                have q2 : ((xw.val.setCell ⟨w.heap.size + 1, 2, none⟩ (.int .i64 z)).drew).cell? ⟨w.heap.size + 1, 2, none⟩ = some (.int .i64 z) := by simp [go_sem]
                have t0 : ((xw.val.setCell ⟨w.heap.size + 1, 2, none⟩ (.int .i64 z)).drew).cell? ⟨w.heap.size, 0, none⟩ = some (.int .i64 0) := by simp [go_sem]
                have t1 : ((xw.val.setCell ⟨w.heap.size + 1, 2, none⟩ (.int .i64 z)).drew).cell? ⟨w.heap.size, 1, none⟩ = some (.int .i64 0) := by simp [go_sem]
                have t2 : ((xw.val.setCell ⟨w.heap.size + 1, 2, none⟩ (.int .i64 z)).drew).cell? ⟨w.heap.size, 2, none⟩ = some (.int .i64 0) := by simp [go_sem]
                have t3 : ((xw.val.setCell ⟨w.heap.size + 1, 2, none⟩ (.int .i64 z)).drew).cell? ⟨w.heap.size, 3, none⟩ = some (.int .i64 0) := by simp [go_sem]
                have f0 : ((xw.val.setCell ⟨w.heap.size + 1, 2, none⟩ (.int .i64 z)).drew).frozen? ⟨w.heap.size, 0, none⟩ = false := by simp [go_sem]
                have f1 : ((xw.val.setCell ⟨w.heap.size + 1, 2, none⟩ (.int .i64 z)).drew).frozen? ⟨w.heap.size, 1, none⟩ = false := by simp [go_sem]
                have f2 : ((xw.val.setCell ⟨w.heap.size + 1, 2, none⟩ (.int .i64 z)).drew).frozen? ⟨w.heap.size, 2, none⟩ = false := by simp [go_sem]
                have f3 : ((xw.val.setCell ⟨w.heap.size + 1, 2, none⟩ (.int .i64 z)).drew).frozen? ⟨w.heap.size, 3, none⟩ = false := by simp [go_sem]
                obtain ⟨V, hV⟩ : ∃ V, V = ((xw.val.setCell ⟨w.heap.size + 1, 2, none⟩ (.int .i64 z)).drew) := ⟨_, rfl⟩
                rw [← hV] at hbV hsV q0 q1 q2 t0 t1 t2 t3 f0 f1 f2 f3 ⊢
                clear hV
                have HBV := hid hbV
                clear hbV
                have hne1 : ¬ w.heap.size = V.heap.size := by omega
                have hne2 : ¬ V.heap.size = w.heap.size := by omega
                haveI : InW w.heap.size V := ⟨by omega⟩
                haveI : InW (w.heap.size + 1) V := ⟨by omega⟩
                go_wp2_with fail
                have HBt := HB4
                obtain ⟨E, hE⟩ : ∃ E, E = insE ⟨o, x, y, z⟩ := ⟨_, rfl⟩
                have HX : Hid (insP xs = if E = 0 then .ok (⟨o, x, y, z⟩, (s4).xs) else .error E) := hid (by rw [hE]; exact HCH.out.trans (ins_end _ _))
                have HCk : Hid (∀ W : World, Gives Tryz.prog 212 #[.agg #[.int .i64 o, .int .i64 x, .int .i64 y, .int .i64 z]] W (.int .i64 E)) := fun W => by rw [hE]; exact codeCheck_any ⟨o, x, y, z⟩ W
                clear hE
                go_region_held3 (fun w' => w'.cell? ⟨V.heap.size, 0, none⟩ = some (.int .i64 o) ∧ w'.cell? ⟨V.heap.size, 1, none⟩ = some (.int .i64 x) ∧ w'.cell? ⟨V.heap.size, 2, none⟩ = some (.int .i64 y) ∧ w'.cell? ⟨V.heap.size, 3, none⟩ = some (.int .i64 z)) (first | (go_keep) | (refine ⟨?_, ?_, ?_, ?_⟩ <;> first | (simp [Ext.cell]; done) | (simp [Ext.cell, alloc_cell_in]; done))) (first | (go_at_call 212; refine (HCk.out _).go.mono ?_; rintro e w' ⟨rfl, xw, rfl⟩))
                go_wp2_with fail
                refine bodyPost_ret (by simp [results, Tryz.results219, go_sem, t0, t1, t2, t3]; try rfl) rfl ?_
                by_cases zE : E = 0
                · obtain rfl := zE
                  refine InsOut.good (i := ⟨o, x, y, z⟩) (rest := (s4).xs) s4 ENDX (by rw [HX.out, if_pos rfl]) rfl ?_ ⟨i64_b o1 o2, HXO.out, HYO.out, HZO.out⟩
                  exact HBt.out
                · exact InsOut.bad ⟨o, x, y, z⟩ s4 ENDX (by rw [HX.out, if_neg zE]) zE
end Go.Proofs.YthagkijplklemaaGreatDoor
end
