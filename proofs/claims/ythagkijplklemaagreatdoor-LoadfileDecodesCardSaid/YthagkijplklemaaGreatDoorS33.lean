/- The program's code.Decode. -/
import Derived.Test.YthagkijplklemaaGreatDoorS32
import Derived.Test.YthagkijplklemaaGreatDoorS14
import Derived.Test.YthagkijplklemaaGreatDoorS13
import Derived.Deep.DeepMust
section
namespace Go.Proofs.YthagkijplklemaaGreatDoor
open Go.ChangeShapes Go.WideShapes Go.ChangeAt Go.RowKit Go.Sc
theorem infIn : (Tryz.prog.info? 57).map (fun i => (i.zero, i.size, i.bytes)) = some (some (.agg #[.int .i64 0, .int .i64 0, .int .i64 0, .int .i64 0]), 4, 32) := by kernel_rfl
/-- Instructions read already, and those to come. -/
def accE (acc : List In) (r : Except Int (List In)) : Except Int (List In) := match r with | .ok l => .ok (acc ++ l) | .error e => .error e
theorem accE_nil (r : Except Int (List In)) : accE [] r = r := by cases r <;> rfl
theorem accE_step {acc : List In} {M n : Nat} {l r : List Int} {i : In} (h0 : l ≠ []) (h1 : n ≠ 256) (h : insP l = .ok (i, r)) : accE acc (decP (M + 1) n l) = accE (acc ++ [i]) (decP M (n + 1) r) := by
  have e : decP (M + 1) n l = match decP M (n + 1) r with | .ok l => .ok (i :: l) | .error e => .error e := by
    rw [decP, if_neg h0, if_neg h1, h]
    rfl
  rw [e]
  generalize decP M (n + 1) r = q
  cases q <;> simp [accE]
theorem opP_len {f x : Int} {l r : List Int} (h : opP f l = .ok (x, r)) : r.length ≤ l.length := by
  unfold opP at h
  split at h
  · cases h; exact Nat.le_refl _
  · split at h
    · split at h
      · cases h; simp; omega
      · cases h
    · split at h
      · cases h; simp
      · cases h
theorem bind_len {α β : Type} {p : Rr α} {f : α → Rr β} {b r : List Int} {y : β} (h : p.bind f b = .ok (y, r)) : ∃ x r1, p b = .ok (x, r1) ∧ f x r1 = .ok (y, r) := by
  unfold Rr.bind at h
  cases hp : p b with
  | error e => rw [hp] at h; cases h
  | ok z => obtain ⟨x, r1⟩ := z; rw [hp] at h; exact ⟨x, r1, rfl, h⟩
theorem insP_len {l r : List Int} {i : In} (h : insP l = .ok (i, r)) : r.length < l.length := by
  obtain ⟨o, r0, h0, k0⟩ := bind_len h
  cases l with
  | nil => cases h0
  | cons q t =>
    cases h0
    clear h
    split at k0
    · cases k0
    · obtain ⟨a, r1, h1, k1⟩ := bind_len k0
      obtain ⟨b, r2, h2, k2⟩ := bind_len k1
      obtain ⟨c, r3, h3, k3⟩ := bind_len k2
      have := opP_len h1
      have := opP_len h2
      have := opP_len h3
      split at k3
      · cases k3; simp; omega
      · cases k3
/-- What Decode returns. -/
def DecOut (w : World) (r : Except Int (List In)) (e : Ending) (w' : World) : Prop :=
  Below w.heap.size w w' ∧ (∀ l, r = .ok l → ∃ (a : Option Addr) (c : Nat), e = .returned (.tuple #[.slice a l.length c, .int .i64 0]) ∧ RepL eIn 4 id w.heap.size w' (.slice a l.length c) l ∧ l.length ≤ 256) ∧
  ∀ c, r = .error c → c ≠ 0 ∧ e = .returned (.tuple #[.slice none 0 0, .int .i64 c])
theorem DecOut.bad {w w' : World} {r : Except Int (List In)} {c : Int} (hb : Below w.heap.size w w') (h : r = .error c) (hc : c ≠ 0) : DecOut w r (.returned (.tuple #[.slice none 0 0, .int .i64 c])) w' :=
  ⟨hb, fun l h' => (by rw [h] at h'; cases h'), fun d hd => by rw [h] at hd; cases hd; exact ⟨hc, rfl⟩⟩
theorem DecOut.good {w w' : World} {r : Except Int (List In)} {l : List In} {a : Option Addr} {n c : Nat} (hb : Below w.heap.size w w') (h : r = .ok l) (ho : w'.ownsRow w.heap.size 57 4 (.slice a n c) l.length (l.flatMap eIn.cells)) (hok : ∀ x ∈ l, eIn.ok w' x) (hl : l.length ≤ 256) :
    DecOut w r (.returned (.tuple #[.slice a n c, .int .i64 0])) w' := by
  obtain ⟨a', c', he, h1, h2⟩ := sl_of_own ho (fun x _ => rfl) hok
  cases he
  refine ⟨hb, fun l' h' => ?_, fun d hd => by rw [h] at hd; cases hd⟩
  rw [h] at h'
  cases h'
  refine ⟨a, c, rfl, ⟨⟨a, c, l⟩, fun b => b < w'.heap.size ∧ ∃ o, a = some ⟨b, o, none⟩, rfl, by simp, fun b ⟨q1, o, q2⟩ => ⟨(h2 b o none q2).1, q1⟩, fun w'' hs hw => ?_⟩, hl⟩
  refine ⟨h1.le, h1.max, h1.nil, fun k x hx => ?_⟩
  obtain ⟨q1, b, off, q2, q3, q4⟩ := h1.at_ k x hx
  exact ⟨q1, b, off, q2, Nat.lt_of_lt_of_le q3 hs, fun j v hv => (World.cell?_of_block (w := w') (a := ⟨b, _, none⟩) (hw b ⟨q3, off, q2⟩)).trans (q4 j v hv)⟩
set_option maxRecDepth 20000 in
set_option maxHeartbeats 4000000 in
theorem decode_any (s0 : Sl Int) (w : World) (hs : Hid (Bytes w s0)) : Calls Tryz.prog 199 #[s0.v] w (DecOut w (decP (s0.xs.length + 1) 0 s0.xs)) := by
  have hle := hs.out.le
  have hmx := hs.out.max
  show Calls _ _ #[.slice s0.a s0.xs.length s0.c] _ _
  obtain ⟨R, hR⟩ : ∃ R, R = decP (s0.xs.length + 1) 0 s0.xs := ⟨_, rfl⟩
  rw [← hR]
  have HR := hid hR
  clear hR
  haveI : LeW w.heap.size w := LeW.refl
  go_enter Tryz.func199, Tryz.ntmps199
  go_wp2_with fail
  go_loopw [0, 4] (fun q o wr => ∃ (s : Sl Int) (acc : List In) (oa : Option Addr) (oc M : Nat), q = .slice s.a s.xs.length s.c ∧ o = .slice oa acc.length oc ∧ Hid (Bytes w s) ∧ Gr 57 w.heap.size w wr ∧ wr.ownsRow w.heap.size 57 4 (.slice oa acc.length oc) acc.length (acc.flatMap eIn.cells) ∧
    (∀ x ∈ acc, eIn.ok w x) ∧ acc.length ≤ 256 ∧ s.xs.length < M ∧ R = accE acc (decP M acc.length s.xs)) (fun q _ _ => match q with | .slice _ n _ => n | _ => 0)
  case atStart => exact ⟨s0, [], none, 0, s0.xs.length + 1, rfl, rfl, hs, .refl, by simpa using own_nil _ _ _ _, (fun _ h => by cases h), by simp, by omega, by rw [accE_nil]; exact HR.out⟩
  case round =>
    obtain ⟨s, acc, oa, oc, M, rfl, rfl, hB, hg, ho, hok, hac, hM, hRs⟩ := hrel
    have hle := hB.out.le
    have hmx := hB.out.max
    have hlen := hB.out.le
    have HO := hid ho
    have HG := hid hg
    have HK := hid hok
    have HRs := hid hRs
    have hwr := hg.size
    haveI : LeW w.heap.size wr := ⟨hwr⟩
    have hbw : Hid (Below w.heap.size w wr) := hg.below (Nat.le_refl _)
    have oc1 : acc.length ≤ oc ∧ oc ≤ maxLen := by
      obtain ⟨a', c', he, q1, q2, _⟩ := own_form ho
      cases he
      exact ⟨q1, q2⟩
    have oc2 := oc1.1
    have oc3 := oc1.2
    unfold maxLen at oc3
    clear ho hg hok hRs oc1
    obtain ⟨M', rfl⟩ : ∃ M', M = M' + 1 := ⟨M - 1, by omega⟩
    by_cases h0 : s.xs.length = 0
    · have hnil : s.xs = [] := List.eq_nil_of_length_eq_zero h0
      have HE : Hid (R = .ok acc) := hid (by rw [HRs.out, hnil, decP, if_pos rfl]; simp [accE])
      clear hnil
      go_wp2_with fail
      go_ret2
      exact DecOut.good hbw.out HE.out HO.out HK.out hac
    · have hne : s.xs ≠ [] := fun h => h0 (by rw [h]; rfl)
      by_cases h256 : acc.length = 256
      · have HE : Hid (R = .error 3) := hid (by rw [HRs.out, decP, if_neg hne, if_pos h256]; rfl)
        have h1 : ((acc.length : Int) == 256) = true := by simp; omega
        have h2 : (0 : Int) < (s.xs.length : Int) := by omega
        clear h256 hne
        go_wp2_with fail
        go_ret2
        exact DecOut.bad hbw.out HE.out (by omega)
      · have h1 : ((acc.length : Int) == 256) = false := by simp; omega
        have h2 : (0 : Int) < (s.xs.length : Int) := by omega
        obtain ⟨o, r, hor⟩ : ∃ o r, s.xs = o :: r := by
          cases hx : s.xs with
          | nil => exact absurd hx hne
          | cons o r => exact ⟨o, r, rfl⟩
        cases hin : insP s.xs with
        | error c =>
          have HE : Hid (R = .error c) := hid (by rw [HRs.out, decP, if_neg hne, if_neg h256, hin]; rfl)
          have hI : Hid (∀ W : World, Below w.heap.size w W → Calls Tryz.prog 219 #[.slice s.a s.xs.length s.c] W fun e w' => ∃ (i : In) (t : Sl Int) (x : Ext W), w' = x.val ∧ e = .returned (.tuple #[i.v, .slice t.a t.xs.length t.c, .int .i64 c])) := fun W hb =>
            (instr_any s W o r (hB.out.mono hb) hor).mono fun e w' ⟨q1, _, q3⟩ => by
              obtain ⟨_, i, t, he⟩ := q3 c hin
              exact ⟨i, t, ⟨w', q1⟩, rfl, he⟩
          have hc0 : c ≠ 0 := by
            obtain ⟨e, w', q⟩ : ∃ e w', InsOut w s (insP s.xs) e w' := by
              obtain ⟨e, w', _, h, _⟩ := instr_any s w o r hB hor []
              exact ⟨e, w', h⟩
            exact (q.2.2 c hin).1
          have hcz : (c != 0) = true := by simp [hc0]
          clear hin hor hne h256
          go_wp2_with (first | (go_at_call 219; refine (hI.out _ ENDX).mono ?_; rintro e w' ⟨i, t, x, rfl, rfl⟩) | fail)
          go_ret2
          exact DecOut.bad ENDX HE.out hc0
        | ok z =>
          obtain ⟨i, r2⟩ := z
          have HE : Hid (R = accE (acc ++ [i]) (decP M' (acc.length + 1) r2)) := hid (by rw [HRs.out]; exact accE_step hne h256 hin)
          have hrl := insP_len hin
          have hI : Hid (∀ W : World, Below w.heap.size w W → Calls Tryz.prog 219 #[.slice s.a s.xs.length s.c] W fun e w' => ∃ (t : Sl Int) (x : Ext W), w' = x.val ∧ e = .returned (.tuple #[i.v, .slice t.a t.xs.length t.c, .int .i64 0]) ∧ Hid (t.xs = r2) ∧ Hid (Bytes w t) ∧ Hid (eIn.ok w i)) := fun W hb =>
            (instr_any s W o r (hB.out.mono hb) hor).mono fun e w' ⟨q1, q2, _⟩ => by
              obtain ⟨t, he, h3, h4, h5⟩ := q2 i r2 hin
              exact ⟨t, ⟨w', q1⟩, rfl, he, h3, h4 w hB.out, h5⟩
          have ha : acc.length ≤ 255 := by omega
          clear hin hor hne h256
          go_wp2_with (first | (go_at_call 219; refine (hI.out _ ENDX).mono ?_; rintro e w' ⟨t, x, rfl, rfl, htx, htb, hti⟩) | (at_builtin; go_must (refine wpList_appN _ rfl _ _ 52 rfl w.heap.size 57 (.agg #[.int .i64 0, .int .i64 0, .int .i64 0, .int .i64 0]) 4 32 Tryz.underlying52 infIn rfl (by decide) (.slice oa acc.length oc) acc.length (acc.flatMap eIn.cells) rfl (hid (by with_reducible repeat' (first | exact Hid.out (by assumption) | refine own_alloc ?_ _ | refine own_ext _ ?_ | refine own_drew ?_))) #[.int .i64 i.op, .int .i64 i.a, .int .i64 i.b, .int .i64 i.c] _ 1 1 (by show Value.slice (some ⟨x.val.heap.size + 1, 0, none⟩) 1 1 = _; simp) rfl (by intro q hq; simp at hq; rcases hq with rfl | rfl | rfl | rfl <;> rfl) (by unfold maxLen; omega) (by omega) LeW.le ?_); intro v' z hz; obtain ⟨za, zc, rfl, hzf⟩ := own_form hz.out; clear hzf) | fail)
          go_roundw
          case rel =>
            refine ⟨t, acc ++ [i], za, zc, M', rfl, by simp, htb, (by with_reducible repeat' (first | exact Gr.refl | exact Hid.out (by assumption) | refine Gr.alloc ?_ _ | refine gr_ext _ ?_ | refine gr_gx _ ?_ | refine Gr.drew ?_)), own_eq (by simpa using hz.out) (by simp) (by simp [eIn]), fun x hx => ?_, by simp; omega, by have := htx.out; rw [this]; omega, ?_⟩
            · rcases List.mem_append.1 hx with hx | hx
              · exact HK.out x hx
              · simp at hx; subst hx; exact hti.out
            · rw [HE.out, htx.out]; simp
          case measure => have := htx.out; simp; rw [this]; omega
end Go.Proofs.YthagkijplklemaaGreatDoor
end
