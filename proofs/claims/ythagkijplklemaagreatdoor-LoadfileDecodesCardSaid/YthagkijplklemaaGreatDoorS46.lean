/- The reference's code.Decode: an operand. The reference's code.Decode. The reference's code.Decode: the walk. The reference's reader: boxes; the code of a method. -/
import Derived.Test.YthagkijplklemaaGreatDoorS45
import Derived.Test.YthagkijplklemaaGreatDoorS33
import Derived.Test.YthagkijplklemaaGreatDoorS39
import Derived.BigQuiet
import Derived.Test.YthagkijplklemaaGreatDoorS28
import Derived.Test.YthagkijplklemaaGreatDoorS29
section
namespace Go.Proofs.YthagkijplklemaaGreatDoor
open Go.ChangeShapes Go.WideShapes Go.ChangeAt Go.RowKit Go.Sc
def valF (f : Int) (l : List Int) : Int := if f = 0 then 0 else (opN f l).1
set_option maxRecDepth 20000 in
set_option maxHeartbeats 1000000 in
theorem rvalue_any (f : Int) (s : Sl Int) (w : World) (hs : Hid (Bytes w s)) (hl : widL f ≤ s.xs.length) : Gives Tryz.prog 204 #[.int .i64 f, s.v] w (.int .i64 (valF f s.xs)) := by
  obtain ⟨a, c, xs⟩ := s
  have hle := hs.out.le
  have hmx := hs.out.max
  simp only at hle hmx hl
  show Gives _ _ #[_, .slice a xs.length c] _ _
  unfold Gives
  by_cases h0 : f = 0
  · subst h0
    go_enter Tryz.func204, Tryz.ntmps204
    go_wp2_with fail
    go_ret
    exact ⟨rfl, END⟩
  · by_cases h1 : f = 1
    · subst h1
      obtain ⟨x, y, z, u, r, rfl⟩ : ∃ x y z u r, xs = x :: y :: z :: u :: r := by
        match xs, hl with
        | [], hl => simp [widL] at hl
        | [_], hl => simp [widL] at hl
        | [_, _], hl => simp [widL] at hl
        | [_, _, _], hl => simp [widL] at hl
        | x :: y :: z :: u :: r, _ => exact ⟨x, y, z, u, r, rfl⟩
      clear hl
      obtain ⟨p1, b, off, ha, hbl, c0⟩ := hs.out.at_ 0 x rfl
      simp only at ha
      subst ha
      obtain ⟨p2, _, _, e1, _, c1⟩ := hs.out.at_ 1 y rfl
      cases e1
      obtain ⟨p3, _, _, e1, _, c2⟩ := hs.out.at_ 2 z rfl
      cases e1
      obtain ⟨p4, _, _, e1, _, c3⟩ := hs.out.at_ 3 u rfl
      cases e1
      have d0 := c0 0 _ rfl
      have d1 := c1 0 _ rfl
      have d2 := c2 0 _ rfl
      have d3 := c3 0 _ rfl
      simp only [Nat.mul_one, Nat.add_zero] at d0 d1 d2 d3
      haveI : InW b w := ⟨hbl⟩
      have x1 := p1.1
      have x2 := p1.2
      have y1 := p2.1
      have y2 := p2.2
      have z1 := p3.1
      have z2 := p3.2
      have u1 := p4.1
      have u2 := p4.2
      clear c0 c1 c2 c3 p1 p2 p3 p4
      go_enter Tryz.func204, Tryz.ntmps204
      go_wp2_with fail
      refine wp_region_ext (by kernel_rfl) (by kernel_rfl) ?_; (repeat (go_big_quiet_step (fail))); refine wpQuiet_nil ?_; intro xw
      go_wp2_with fail
      go_ret
      exact ⟨ret_int (opN_int x1 x2 y1 y2 z1 z2 u1 u2), END⟩
    · have H0 := hid h0
      have H1 := hid h1
      have g0 : (f == 0) = false := by simp [h0]
      have g1 : (f == 1) = false := by simp [h1]
      obtain ⟨x, r, rfl⟩ : ∃ x r, xs = x :: r := by
        cases xs with
        | nil => unfold widL at hl; rw [if_neg h0, if_neg h1] at hl; simp at hl
        | cons x r => exact ⟨x, r, rfl⟩
      obtain ⟨p1, b, off, ha, hbl, c0⟩ := hs.out.at_ 0 x rfl
      simp only at ha
      subst ha
      have d0 := c0 0 _ rfl
      simp only [Nat.mul_one, Nat.add_zero] at d0
      haveI : InW b w := ⟨hbl⟩
      have x1 := p1.1
      have x2 := p1.2
      clear c0 p1 h0 h1 hl
      by_cases h3 : f = 3
      · have g3 : (f == 3) = true := by simp [h3]
        have H3 := hid h3
        clear h3
        go_enter Tryz.func204, Tryz.ntmps204
        go_wp2_with fail
        go_ret
        exact ⟨ret_int (by unfold valF opN; rw [if_neg H0.out, if_neg H1.out]; simp only; rw [if_pos H3.out]; exact w8_sgn x1 x2), END⟩
      · have g3 : (f == 3) = false := by simp [h3]
        have H3 := hid h3
        clear h3
        go_enter Tryz.func204, Tryz.ntmps204
        go_wp2_with fail
        go_ret
        exact ⟨ret_int (by unfold valF opN; rw [if_neg H0.out, if_neg H1.out]; simp only; rw [if_neg H3.out]), END⟩
end Go.Proofs.YthagkijplklemaaGreatDoor
end

section
namespace Go.Proofs.YthagkijplklemaaGreatDoor
open Go.ChangeShapes Go.WideShapes Go.ChangeAt Go.RowKit Go.Sc
def widN (f : Int) : Nat := if f = 0 then 0 else if f = 1 then 4 else 1
theorem widN_eq (f : Int) : widL f = (widN f : Int) := by unfold widL widN; split <;> (try split) <;> rfl
theorem opP_long {f : Int} {l : List Int} (h : widN f ≤ l.length) : opP f l = .ok (valF f l, l.drop (widN f)) := by
  unfold widN at h
  unfold opP valF widN
  by_cases h0 : f = 0
  · simp [h0]
  · rw [if_neg h0, if_neg h0] at *
    by_cases h1 : f = 1
    · rw [if_pos h1] at h ⊢
      subst h1
      match l, h with
      | [], h => simp at h
      | [_], h => simp at h
      | [_, _], h => simp at h
      | [_, _, _], h => simp at h
      | x :: y :: z :: u :: r, _ => simp [opN]
    · rw [if_neg h1] at h ⊢
      match l, h with
      | [], h => simp at h
      | x :: r, _ => simp [opN, h1, h0]
theorem opP_short {f : Int} {l : List Int} (h : l.length < widN f) : opP f l = .error 5 := by
  unfold widN at h
  unfold opP
  by_cases h0 : f = 0
  · simp [h0] at h
  · rw [if_neg h0] at h ⊢
    by_cases h1 : f = 1
    · rw [if_pos h1] at h ⊢
      match l, h with
      | [], _ => rfl
      | [_], _ => rfl
      | [_, _], _ => rfl
      | [_, _, _], _ => rfl
      | x :: y :: z :: u :: r, h => simp at h; omega
    · rw [if_neg h1] at h ⊢
      match l, h with
      | [], _ => rfl
      | x :: r, h => simp at h
theorem ins_big {o : Int} {r : List Int} (h : 54 ≤ o) : insP (o :: r) = .error 4 := by
  unfold insP
  rw [Rr.bind_ok (show numP (o :: r) = .ok (o, r) from rfl), if_pos h]
  rfl
theorem ins_short {o : Int} {r : List Int} (h : ¬ 54 ≤ o) (hl : r.length < widN (frm o).1 + widN (frm o).2.1 + widN (frm o).2.2) : insP (o :: r) = .error 5 := by
  unfold insP
  rw [Rr.bind_ok (show numP (o :: r) = .ok (o, r) from rfl), if_neg h]
  by_cases h1 : r.length < widN (frm o).1
  · exact Rr.bind_err (opP_short h1)
  · rw [Rr.bind_ok (opP_long (by omega))]
    by_cases h2 : (r.drop (widN (frm o).1)).length < widN (frm o).2.1
    · exact Rr.bind_err (opP_short h2)
    · rw [Rr.bind_ok (opP_long (by omega))]
      exact Rr.bind_err (opP_short (by simp only [List.length_drop] at *; omega))
theorem ins_long {o : Int} {r : List Int} (h : ¬ 54 ≤ o) (hl : widN (frm o).1 + widN (frm o).2.1 + widN (frm o).2.2 ≤ r.length) (a b c : Int) (ha : a = valF (frm o).1 r) (hb : b = valF (frm o).2.1 (r.drop (widN (frm o).1))) (hc : c = valF (frm o).2.2 (r.drop (widN (frm o).1 + widN (frm o).2.1))) :
    insP (o :: r) = if insE ⟨o, a, b, c⟩ = 0 then .ok (⟨o, a, b, c⟩, r.drop (widN (frm o).1 + widN (frm o).2.1 + widN (frm o).2.2)) else .error (insE ⟨o, a, b, c⟩) := by
  subst ha hb hc
  unfold insP
  rw [Rr.bind_ok (show numP (o :: r) = .ok (o, r) from rfl), if_neg h, Rr.bind_ok (opP_long (by omega)), Rr.bind_ok (opP_long (by simp only [List.length_drop]; omega)), Rr.bind_ok (opP_long (by simp only [List.length_drop]; omega))]
  simp only [List.drop_drop]
  split <;> rfl
theorem valF_ok {f : Int} {l : List Int} (hl : ∀ y ∈ l, 0 ≤ y ∧ y ≤ 255) (h : widN f ≤ l.length) : i64ok (valF f l) := by
  by_cases h0 : f = 0
  · unfold valF; rw [if_pos h0]; exact i64_byte (by omega) (by omega)
  · obtain ⟨_, _, _, _, _, _, h6⟩ := opP_ok h0 hl (opP_long h)
    exact h6
end Go.Proofs.YthagkijplklemaaGreatDoor
end

section
namespace Go.Proofs.YthagkijplklemaaGreatDoor
open Go.ChangeShapes Go.WideShapes Go.ChangeAt Go.RowKit Go.Sc
/-- The end of the bytes from a place on. -/
theorem tail_at (s : Sl Int) (k : Nat) (K : Int) (hK : K = (k : Int)) (hk : k ≤ s.xs.length) (hm : s.xs.length ≤ s.c) : ∃ t : Sl Int, Hid (t.xs = s.xs.drop k) ∧ (∀ W : World, (Instr.sliceAt 22 (.slice s.a s.xs.length s.c) (some (.int .i64 K)) none none).run Tryz.prog W = .ok (.slice t.a t.xs.length t.c) W) ∧ Hid (∀ W : World, Bytes W s → Bytes W t) := by
  subst hK
  obtain ⟨t, h1, h2, h3⟩ := slice_tail s k hk hm
  exact ⟨t, h2, h1, h3⟩
set_option maxRecDepth 100000 in
set_option maxHeartbeats 4000000 in
theorem rdecode_any (s0 : Sl Int) (w : World) (hs : Hid (Bytes w s0)) (hl : s0.xs.length ≤ 65535) : Calls Tryz.prog 148 #[s0.v] w (DecOut w (decP (s0.xs.length + 1) 0 s0.xs)) := by
  have hle := hs.out.le
  have hmx := hs.out.max
  obtain ⟨sa, sc, bs⟩ := s0
  simp only at hle hmx hl
  show Calls _ _ #[.slice sa bs.length sc] _ _
  obtain ⟨R, hR⟩ : ∃ R, R = decP (bs.length + 1) 0 bs := ⟨_, rfl⟩
  show Calls _ _ _ _ (DecOut w (decP (bs.length + 1) 0 bs))
  rw [← hR]
  have HR := hid hR
  clear hR
  haveI : LeW w.heap.size w := LeW.refl
  go_enter Tryz.func148, Tryz.ntmps148
  go_wp2_with fail
  go_loopw [4, 5, 6, 7, 8, 9, 10, 11, 12] (fun o at_ _ _ _ _ _ _ _ wr => ∃ (A : Nat) (acc : List In) (oa : Option Addr) (oc M : Nat), at_ = .int .i64 A ∧ o = .slice oa acc.length oc ∧ Gr 57 w.heap.size w wr ∧ wr.ownsRow w.heap.size 57 4 (.slice oa acc.length oc) acc.length (acc.flatMap eIn.cells) ∧
    (∀ x ∈ acc, eIn.ok w x) ∧ acc.length ≤ 256 ∧ A ≤ bs.length ∧ bs.length - A < M ∧ R = accE acc (decP M acc.length (bs.drop A))) (fun _ at_ _ _ _ _ _ _ _ _ => bs.length - (intOf at_).toNat)
  case atStart => exact ⟨0, [], none, 0, bs.length + 1, rfl, rfl, .refl, by simpa using own_nil _ _ _ _, (fun _ h => by cases h), by simp, by omega, by omega, by rw [accE_nil]; exact HR.out⟩
  case round =>
    obtain ⟨A, acc, oa, oc, M, rfl, rfl, hg, ho, hok, hac, hA, hM, hRs⟩ := hrel
    have HO := hid ho
    have HG := hid hg
    have HK := hid hok
    have HRs := hid hRs
    have hwr := hg.size
    haveI : LeW w.heap.size wr := ⟨hwr⟩
    have hbw : Hid (Below w.heap.size w wr) := hg.below (Nat.le_refl _)
    have oc1 : acc.length ≤ oc ∧ oc ≤ maxLen := by
      obtain ⟨a', c', he, q1, q2, _⟩ := own_form ho
      cases he
      exact ⟨q1, q2⟩
    have oc2 := oc1.1
    have oc3 := oc1.2
    unfold maxLen at oc3
    clear ho hg hok hRs oc1
    obtain ⟨M', rfl⟩ : ∃ M', M = M' + 1 := ⟨M - 1, by omega⟩
    by_cases h0 : A = bs.length
    · have hnil : bs.drop A = [] := List.drop_eq_nil_of_le (by omega)
      have HE : Hid (R = .ok acc) := hid (by rw [HRs.out, hnil, decP, if_pos rfl]; simp [accE])
      clear hnil
      subst h0
      go_wp2_with fail
      go_ret2
      exact DecOut.good hbw.out HE.out HO.out HK.out hac
    · have hlt : A < bs.length := by omega
      have hk1 : (0 : Int) ≤ (A : Int) := by omega
      have hk2 : (A : Int) < (bs.length : Int) := by omega
      obtain ⟨o, hbo⟩ := getElem?_of_lt hlt
      obtain ⟨r, hr⟩ : ∃ r, r = bs.drop (A + 1) := ⟨_, rfl⟩
      have hor : bs.drop A = o :: r := by rw [hr]; exact (List.drop_eq_getElem_cons hlt).trans (by rw [List.getElem?_eq_getElem hlt] at hbo; cases hbo; rfl)
      have hrl : r.length = bs.length - (A + 1) := by rw [hr, List.length_drop]
      have hne : bs.drop A ≠ [] := by rw [hor]; simp
      clear h0
      by_cases h256 : acc.length = 256
      · have HE : Hid (R = .error 3) := hid (by rw [HRs.out, decP, if_neg hne, if_pos h256]; rfl)
        have h1 : ((acc.length : Int) == 256) = true := by simp; omega
        clear h256 hne hor hr hrl hbo
        go_wp2_with fail
        go_ret2
        exact DecOut.bad hbw.out HE.out (by omega)
      · have h1 : ((acc.length : Int) == 256) = false := by simp; omega
        obtain ⟨⟨o1, o2⟩, b, off, hba, hbl, hc⟩ := hs.out.at_ A o hbo
        simp only at hba
        subst hba
        have c0 : w.cell? ⟨b, off + A, none⟩ = some (.int .u8 o) := by have := hc 0 _ rfl; simpa using this
        have d0 : wr.cell? ⟨b, off + A, none⟩ = some (.int .u8 o) := (World.cell?_of_block (w := w) (a := ⟨b, off + A, none⟩) (hbw.out.block b hbl)).trans c0
        haveI : InW b wr := ⟨by omega⟩
        have ha : acc.length ≤ 255 := by omega
        clear hc c0 hbo
        by_cases h54 : 54 ≤ o
        · have HE : Hid (R = .error 4) := hid (by rw [HRs.out, decP, if_neg hne, if_neg h256, hor, ins_big h54]; rfl)
          clear h256 hne hor hr hrl
          go_wp2_with fail
          go_ret2
          exact DecOut.bad hbw.out HE.out (by omega)
        · have h54' : o < 54 := by omega
          obtain ⟨fx, hfx⟩ : ∃ f, f = (frm o).1 := ⟨_, rfl⟩
          obtain ⟨fy, hfy⟩ : ∃ f, f = (frm o).2.1 := ⟨_, rfl⟩
          obtain ⟨fz, hfz⟩ : ∃ f, f = (frm o).2.2 := ⟨_, rfl⟩
          have hF : Hid (∀ W : World, Gives Tryz.prog 176 #[.int .i64 o] W (.tuple #[.int .i64 fx, .int .i64 fy, .int .i64 fz])) := hid fun W => by rw [hfx, hfy, hfz]; exact forms_any o W
          obtain ⟨nx, hnx⟩ : ∃ n, n = widN fx := ⟨_, rfl⟩
          obtain ⟨ny, hny⟩ : ∃ n, n = widN fy := ⟨_, rfl⟩
          obtain ⟨nz, hnz⟩ : ∃ n, n = widN fz := ⟨_, rfl⟩
          have hX : Hid (∀ W : World, Gives Tryz.prog 203 #[.int .i64 fx] W (.int .i64 (nx : Int))) := hid fun W => by rw [hnx, ← widN_eq]; exact rwidth_any fx W
          have hY : Hid (∀ W : World, Gives Tryz.prog 203 #[.int .i64 fy] W (.int .i64 (ny : Int))) := hid fun W => by rw [hny, ← widN_eq]; exact rwidth_any fy W
          have hZ : Hid (∀ W : World, Gives Tryz.prog 203 #[.int .i64 fz] W (.int .i64 (nz : Int))) := hid fun W => by rw [hnz, ← widN_eq]; exact rwidth_any fz W
          have bx : nx ≤ 4 := by rw [hnx]; unfold widN; split <;> (try split) <;> omega
          have by_ : ny ≤ 4 := by rw [hny]; unfold widN; split <;> (try split) <;> omega
          have bz : nz ≤ 4 := by rw [hnz]; unfold widN; split <;> (try split) <;> omega
          by_cases hsh : r.length < nx + ny + nz
          · have HE : Hid (R = .error 5) := hid (by rw [HRs.out, decP, if_neg hne, if_neg h256, hor, ins_short h54 (by rw [← hfx, ← hfy, ← hfz, ← hnx, ← hny, ← hnz]; exact hsh)]; rfl)
            have hsi : (bs.length : Int) - (A : Int) < 1 + (nx : Int) + (ny : Int) + (nz : Int) := by omega
            clear h256 hne hor hr hrl hfx hfy hfz hnx hny hnz h54
            go_wp2_with (first | (go_at_call 176; refine (hF.out _).go.mono ?_; rintro e w' ⟨rfl, xw, rfl⟩) | (go_at_call 203; (with_reducible refine (hX.out _).go.mono ?_); rintro e w' ⟨rfl, xw, rfl⟩) | (go_at_call 203; (with_reducible refine (hY.out _).go.mono ?_); rintro e w' ⟨rfl, xw, rfl⟩) | (go_at_call 203; (with_reducible refine (hZ.out _).go.mono ?_); rintro e w' ⟨rfl, xw, rfl⟩) | fail)
            go_ret2
            exact DecOut.bad (hbw.out.trans (Below.mono (show Below wr.heap.size wr _ from ENDX) hwr)) HE.out (by omega)
          · have hsi : ¬ (bs.length : Int) - (A : Int) < 1 + (nx : Int) + (ny : Int) + (nz : Int) := by omega
            obtain ⟨t1, T1, r1, B1⟩ := tail_at ⟨some ⟨b, off, none⟩, sc, bs⟩ (A + 1) ((A : Int) + 1) (by omega) (by simp only; omega) hle
            obtain ⟨t2, T2, r2, B2⟩ := tail_at ⟨some ⟨b, off, none⟩, sc, bs⟩ (A + 1 + nx) ((A : Int) + 1 + (nx : Int)) (by omega) (by simp only; omega) hle
            obtain ⟨t3, T3, r3, B3⟩ := tail_at ⟨some ⟨b, off, none⟩, sc, bs⟩ (A + 1 + nx + ny) ((A : Int) + 1 + (nx : Int) + (ny : Int)) (by omega) (by simp only; omega) hle
            simp only at r1 r2 r3
            have e1 : t1.xs = r := T1.out.trans hr.symm
            have e2 : t2.xs = r.drop nx := T2.out.trans (by rw [hr, List.drop_drop])
            have e3 : t3.xs = r.drop (nx + ny) := T3.out.trans (by rw [hr, List.drop_drop]; congr 1; omega)
            obtain ⟨va, hva⟩ : ∃ v, v = valF fx r := ⟨_, rfl⟩
            obtain ⟨vb, hvb⟩ : ∃ v, v = valF fy (r.drop nx) := ⟨_, rfl⟩
            obtain ⟨vc, hvc⟩ : ∃ v, v = valF fz (r.drop (nx + ny)) := ⟨_, rfl⟩
            have hrg : ∀ y ∈ r, 0 ≤ y ∧ y ≤ 255 := fun y hy => (show Bytes w ⟨some ⟨b, off, none⟩, sc, bs⟩ from hs.out).range y (by rw [hr] at hy; exact List.mem_of_mem_drop hy)
            have k1 : i64ok va := by rw [hva]; exact valF_ok hrg (by rw [← hnx]; omega)
            have k2 : i64ok vb := by rw [hvb]; exact valF_ok (fun y hy => hrg y (List.mem_of_mem_drop hy)) (by rw [← hny, List.length_drop]; omega)
            have k3 : i64ok vc := by rw [hvc]; exact valF_ok (fun y hy => hrg y (List.mem_of_mem_drop hy)) (by rw [← hnz, List.length_drop]; omega)
            have hV1 : Hid (∀ W : World, Below w.heap.size w W → Gives Tryz.prog 204 #[.int .i64 fx, .slice t1.a t1.xs.length t1.c] W (.int .i64 va)) := hid fun W h => by
              rw [hva, ← e1]
              exact rvalue_any fx t1 W (hid ((B1.out w hs.out).mono h)) (by rw [e1, widN_eq, ← hnx]; omega)
            have hV2 : Hid (∀ W : World, Below w.heap.size w W → Gives Tryz.prog 204 #[.int .i64 fy, .slice t2.a t2.xs.length t2.c] W (.int .i64 vb)) := hid fun W h => by
              rw [hvb, ← e2]
              exact rvalue_any fy t2 W (hid ((B2.out w hs.out).mono h)) (by rw [e2, widN_eq, ← hny, List.length_drop]; omega)
            have hV3 : Hid (∀ W : World, Below w.heap.size w W → Gives Tryz.prog 204 #[.int .i64 fz, .slice t3.a t3.xs.length t3.c] W (.int .i64 vc)) := hid fun W h => by
              rw [hvc, ← e3]
              exact rvalue_any fz t3 W (hid ((B3.out w hs.out).mono h)) (by rw [e3, widN_eq, ← hnz, List.length_drop]; omega)
            obtain ⟨E, hE⟩ : ∃ E, E = insE ⟨o, va, vb, vc⟩ := ⟨_, rfl⟩
            have hC : Hid (∀ W : World, Gives Tryz.prog 113 #[.agg #[.int .i64 o, .int .i64 va, .int .i64 vb, .int .i64 vc]] W (.int .i64 E)) := hid fun W => by rw [hE]; exact rcheck27_any ⟨o, va, vb, vc⟩ W
            have hin := ins_long (o := o) (r := r) h54 (by rw [← hfx, ← hfy, ← hfz, ← hnx, ← hny, ← hnz]; omega) va vb vc (by rw [← hfx]; exact hva) (by rw [← hfx, ← hfy, ← hnx]; exact hvb) (by rw [← hfx, ← hfy, ← hfz, ← hnx, ← hny]; exact hvc)
            rw [← hfx, ← hfy, ← hfz, ← hnx, ← hny, ← hnz, ← hE] at hin
            by_cases hz : E = 0
            · have hE0 : (E != 0) = false := by simp [hz]
              have HE : Hid (R = accE (acc ++ [⟨o, va, vb, vc⟩]) (decP M' (acc.length + 1) (bs.drop (A + (1 + nx + ny + nz))))) := hid (by
                rw [HRs.out]
                rw [if_pos hz, hr, List.drop_drop] at hin
                rw [show A + (1 + nx + ny + nz) = A + 1 + (nx + ny + nz) by omega]
                refine accE_step hne h256 ?_
                rw [hor, hr]
                exact hin)
              clear h256 hne hor hfx hfy hfz hnx hny hnz h54 hin hE hz e1 e2 e3 hva hvb hvc T1 T2 T3 B1 B2 B3 hr
              go_wp2_with (first | (go_at_call 176; refine (hF.out _).go.mono ?_; rintro e w' ⟨rfl, xw, rfl⟩) | (go_at_call 203; (with_reducible refine (hX.out _).go.mono ?_); rintro e w' ⟨rfl, xw, rfl⟩) | (go_at_call 203; (with_reducible refine (hY.out _).go.mono ?_); rintro e w' ⟨rfl, xw, rfl⟩) | (go_at_call 203; (with_reducible refine (hZ.out _).go.mono ?_); rintro e w' ⟨rfl, xw, rfl⟩) | (go_at_call 204; (with_reducible refine (hV1.out _ ?_).go.mono ?_); (exact hbw.out.trans (Below.mono (show Below wr.heap.size wr _ from ENDX) hwr)); rintro e w' ⟨rfl, xw, rfl⟩) | (go_at_call 204; (with_reducible refine (hV2.out _ ?_).go.mono ?_); (exact hbw.out.trans (Below.mono (show Below wr.heap.size wr _ from ENDX) hwr)); rintro e w' ⟨rfl, xw, rfl⟩) | (go_at_call 204; (with_reducible refine (hV3.out _ ?_).go.mono ?_); (exact hbw.out.trans (Below.mono (show Below wr.heap.size wr _ from ENDX) hwr)); rintro e w' ⟨rfl, xw, rfl⟩) | (go_at_call 113; refine (hC.out _).go.mono ?_; rintro e w' ⟨rfl, xw, rfl⟩) | (at_builtin; refine wpList_appN _ rfl _ _ 52 rfl w.heap.size 57 (.agg #[.int .i64 0, .int .i64 0, .int .i64 0, .int .i64 0]) 4 32 Tryz.underlying52 infIn rfl (by decide) (.slice oa acc.length oc) acc.length (acc.flatMap eIn.cells) rfl (hid (own_below HO.out (show Below wr.heap.size wr _ from ENDX))) #[.int .i64 o, .int .i64 va, .int .i64 vb, .int .i64 vc] _ 1 1 (by first | rfl | simp) rfl (by intro q hq; simp at hq; rcases hq with rfl | rfl | rfl | rfl <;> rfl) (by unfold maxLen; omega) (by omega) LeW.le ?_; intro v' z hz; obtain ⟨za, zc, rfl, hzf⟩ := own_form hz.out; clear hzf) | fail)
              go_roundw
              case rel =>
                refine ⟨A + (1 + nx + ny + nz), acc ++ [⟨o, va, vb, vc⟩], za, zc, M', by first | (congr 1; done) | (congr 1; omega), by simp, gr_gx z ((HG.out.trans (Gr.of_below (show Below wr.heap.size wr _ from ENDX))).alloc _), own_eq (by simpa using hz.out) (by simp) (by simp [eIn]), fun x hx => ?_, by simp; omega, by omega, by omega, ?_⟩
                · rcases List.mem_append.1 hx with hx | hx
                  · exact HK.out x hx
                  · simp at hx; subst hx; exact ⟨i64_byte o1 o2, k1, k2, k3⟩
                · rw [HE.out]; simp
              case measure => simp [intOf]; omega
            · have hE0 : (E != 0) = true := by simp [hz]
              have HE : Hid (R = .error E) := hid (by rw [HRs.out, decP, if_neg hne, if_neg h256, hor, hin, if_neg hz]; rfl)
              have HZ := hid hz
              clear h256 hne hor hfx hfy hfz hnx hny hnz h54 hin hE hz e1 e2 e3 hva hvb hvc T1 T2 T3 B1 B2 B3 hr
              go_wp2_with (first | (go_at_call 176; refine (hF.out _).go.mono ?_; rintro e w' ⟨rfl, xw, rfl⟩) | (go_at_call 203; (with_reducible refine (hX.out _).go.mono ?_); rintro e w' ⟨rfl, xw, rfl⟩) | (go_at_call 203; (with_reducible refine (hY.out _).go.mono ?_); rintro e w' ⟨rfl, xw, rfl⟩) | (go_at_call 203; (with_reducible refine (hZ.out _).go.mono ?_); rintro e w' ⟨rfl, xw, rfl⟩) | (go_at_call 204; (with_reducible refine (hV1.out _ ?_).go.mono ?_); (exact hbw.out.trans (Below.mono (show Below wr.heap.size wr _ from ENDX) hwr)); rintro e w' ⟨rfl, xw, rfl⟩) | (go_at_call 204; (with_reducible refine (hV2.out _ ?_).go.mono ?_); (exact hbw.out.trans (Below.mono (show Below wr.heap.size wr _ from ENDX) hwr)); rintro e w' ⟨rfl, xw, rfl⟩) | (go_at_call 204; (with_reducible refine (hV3.out _ ?_).go.mono ?_); (exact hbw.out.trans (Below.mono (show Below wr.heap.size wr _ from ENDX) hwr)); rintro e w' ⟨rfl, xw, rfl⟩) | (go_at_call 113; refine (hC.out _).go.mono ?_; rintro e w' ⟨rfl, xw, rfl⟩) | fail)
              go_ret2
              exact DecOut.bad (hbw.out.trans (Below.mono (show Below wr.heap.size wr _ from ENDX) hwr)) HE.out HZ.out
end Go.Proofs.YthagkijplklemaaGreatDoor
end

section
namespace Go.Proofs.YthagkijplklemaaGreatDoor
open Go.ChangeShapes Go.WideShapes Go.ChangeAt Go.RowKit Go.Sc
/-- A block with these values in its first cells. -/
def BoxL (w : World) (D : Nat) (cs : List Value) : Prop := (∀ i v, cs[i]? = some v → w.cell? ⟨D, i, none⟩ = some v) ∧ ∀ i, w.frozen? ⟨D, i, none⟩ = false
theorem BoxL.same {w w' : World} {D : Nat} {cs : List Value} (h : BoxL w D cs) (hk : w'.heap[D]? = w.heap[D]?) : BoxL w' D cs :=
  ⟨fun i v hv => (World.cell?_of_block (w := w) (a := ⟨D, i, none⟩) hk).trans (h.1 i v hv), fun i => (World.frozen?_of_block (w := w) (a := ⟨D, i, none⟩) hk).trans (h.2 i)⟩
theorem BoxL.set {w : World} {D : Nat} {cs : List Value} (h : BoxL w D cs) (i : Nat) (v : Value) (hi : i < cs.length) : BoxL (w.setCell ⟨D, i, none⟩ v) D (cs.set i v) := by
  refine ⟨fun j u hu => ?_, fun j => by simpa using h.2 j⟩
  by_cases hj : i = j
  · subst hj
    rw [List.getElem?_set_self hi] at hu
    cases hu
    exact World.cell?_setCell_same' _ _ _ (by rw [h.1 i _ (List.getElem?_eq_getElem hi)]; rfl)
  · rw [List.getElem?_set_ne hj] at hu
    rw [World.cell?_setCell_other]
    · exact h.1 j u hu
    · first | (simp; done) | (simp; omega)
theorem BoxL.new (w : World) (cs : Array Value) (t : TypeId) : BoxL (w.alloc (.cells cs t)) w.heap.size cs.toList :=
  ⟨fun i v hv => by rw [World.cell?_alloc_new]; simpa using hv, fun i => by simp⟩
theorem kind_post2 {β : Type} {P P' : Rr β} {x : β} {bs : List Int} {a a' : Nat} {hi n e1 e2 e' : Int} (hk : KindE hi n e1 e2) (h : Post P' bs a e2 x a' e') (hp : ¬ hi < n → P' = P) : Post (if hi < n then Rr.fail 4 else P) bs a e1 x a' e' := by
  by_cases hn : hi < n
  · have h2 := kind_post (P := P') hk h
    rw [if_pos hn] at h2 ⊢
    exact h2
  · rw [← hp hn]
    exact kind_post hk h
/-- From V to W nothing that was there has turned but blocks p and D. -/
structure NoD (D p : Nat) (V W : World) : Prop where
  size : V.heap.size ≤ W.heap.size
  blk : ∀ k, k < V.heap.size → k ≠ p → k ≠ D → W.heap[k]? = V.heap[k]?
section
variable {D p : Nat} {V W : World}
theorem NoD.refl : NoD D p V V := ⟨Nat.le_refl _, fun _ _ _ _ => rfl⟩
theorem NoD.px (y : Px p W) (h : NoD D p V W) : NoD D p V y.val := ⟨Nat.le_trans h.size y.fp.size, fun k h1 h2 h3 => (y.fp.block k (Nat.lt_of_lt_of_le h1 h.size) h2).trans (h.blk k h1 h2 h3)⟩
theorem NoD.ext (y : Ext W) (h : NoD D p V W) : NoD D p V y.val := ⟨Nat.le_trans h.size y.size, fun k h1 h2 h3 => (y.below.block k (Nat.lt_of_lt_of_le h1 h.size)).trans (h.blk k h1 h2 h3)⟩
theorem NoD.alloc (o : Obj) (h : NoD D p V W) : NoD D p V (W.alloc o) := ⟨by simp; exact Nat.le_succ_of_le h.size, fun k h1 h2 h3 => (Below.heap_alloc _ _ k (Nat.lt_of_lt_of_le h1 h.size)).trans (h.blk k h1 h2 h3)⟩
theorem NoD.set {b : Nat} (o : Nat) (v : Value) (h : NoD D p V W) (hb : b = D ∨ V.heap.size ≤ b) : NoD D p V (W.setCell ⟨b, o, none⟩ v) := ⟨by rw [size_setCell]; exact h.size, fun k h1 h2 h3 => (Below.heap_setCell _ _ _ _ (by simp only; omega)).trans (h.blk k h1 h2 h3)⟩
end
theorem repl_nil {α : Type} {E : El α} {m base : Nat} {er : α → α} {w : World} : RepL E m er base w nilV [] :=
  ⟨⟨none, 0, []⟩, fun _ => False, rfl, rfl, fun _ h => h.elim, fun _ _ _ => ⟨by simp, by simp, fun _ => rfl, fun j x hx => by simp at hx⟩⟩
/-- .. the bytes of the code read as instructions. -/
def decR (b : List Int) : Rr (List In) := fun r => match decP (b.length + 1) 0 b with | .ok l => .ok (l, r) | .error e => .error e
theorem dec_stay {bs b : List Int} {a : Nat} {e : Int} (he : e ≠ 0) : Post (decR b) bs a e [] a e := ⟨fun _ => rfl, fun _ _ h => absurd h he, fun _ h => absurd h he⟩
theorem dec_good {bs b : List Int} {a : Nat} {l : List In} (h : decP (b.length + 1) 0 b = .ok l) : Post (decR b) bs a 0 l a 0 := by
  refine ⟨fun h => absurd rfl h, fun y r _ k => ?_, fun c _ k => ?_⟩
  · unfold decR at k; rw [h] at k; cases k; exact ⟨rfl, rfl, rfl⟩
  · unfold decR at k; rw [h] at k; cases k
theorem dec_bad {bs b : List Int} {a : Nat} {c : Int} (h : decP (b.length + 1) 0 b = .error c) (hc : c ≠ 0) : Post (decR b) bs a 0 [] a c := by
  refine ⟨fun h => absurd rfl h, fun y r _ k => ?_, fun d _ k => ?_⟩
  · unfold decR at k; rw [h] at k; cases k
  · unfold decR at k; rw [h] at k; cases k; exact ⟨rfl, hc⟩
end Go.Proofs.YthagkijplklemaaGreatDoor
end
