/- Plain: bytes that are read as a package are those that are written of it. No program in sight. -/
import Derived.Test.YthagkijplklemaaGreatDoorM27
section
namespace Go.Proofs.YthagkijplklemaaGreatDoor
open Go.RowKit Go.Sc
/-- What the reader takes is what the writer gives. -/
def Wt {α : Type} (P : Rr α) (B : α → List Int) : Prop := ∀ b x r, byts b → P b = .ok (x, r) → b = B x ++ r
theorem bind_inv {α β : Type} {p : Rr α} {f : α → Rr β} {b r : List Int} {y : β} (h : p.bind f b = .ok (y, r)) : ∃ x s, p b = .ok (x, s) ∧ f x s = .ok (y, r) := by
  unfold Rr.bind at h
  cases e : p b with
  | error c => rw [e] at h; cases h
  | ok z => obtain ⟨x, s⟩ := z; rw [e] at h; exact ⟨x, s, rfl, h⟩
theorem byts_tail {a b : List Int} (h : byts (a ++ b)) : byts b := fun x hx => h x (List.mem_append_right a hx)
theorem Wt.step {α β : Type} {p : Rr α} {B : α → List Int} {f : α → Rr β} {b r : List Int} {y : β} (hw : Wt p B) (hb : byts b) (h : p.bind f b = .ok (y, r)) : ∃ x s, p b = .ok (x, s) ∧ b = B x ++ s ∧ byts s ∧ f x s = .ok (y, r) := by
  obtain ⟨x, s, h1, h2⟩ := bind_inv h
  have e := hw b x s hb h1
  exact ⟨x, s, h1, e, byts_tail (e ▸ hb), h2⟩
theorem num_inv {b r : List Int} {x : Int} (h : numP b = .ok (x, r)) : b = x :: r := by
  cases b with
  | nil => cases h
  | cons y s => cases h; rfl
theorem Wt.num : Wt numP byteB := fun b x r hb h => by
  have e := num_inv h
  subst e
  have := hb x (by simp)
  simp [byteB]; omega
theorem num_step {β : Type} {f : Int → Rr β} {b r : List Int} {y : β} (hb : byts b) (h : numP.bind f b = .ok (y, r)) : ∃ x s, b = x :: s ∧ (0 ≤ x ∧ x ≤ 255) ∧ byts s ∧ f x s = .ok (y, r) := by
  obtain ⟨x, s, h1, h2⟩ := bind_inv h
  have e := num_inv h1
  subst e
  exact ⟨x, s, rfl, hb x (by simp), fun z hz => hb z (by simp [hz]), h2⟩
theorem rep_inv {α : Type} {f : Rr α} {F : α → List Int} (hf : Wt f F) : ∀ (n : Nat) (b : List Int) (xs : List α) (r : List Int), byts b → repP f n b = .ok (xs, r) → b = xs.flatMap F ++ r ∧ xs.length = n
  | 0, b, xs, r, _, h => by rw [repP] at h; cases h; simp
  | n + 1, b, xs, r, hb, h => by
    rw [repP] at h
    obtain ⟨x, s, _, e, hs, h2⟩ := hf.step hb h
    obtain ⟨ys, s2, h3, h4⟩ := bind_inv h2
    obtain ⟨e1, e2⟩ := rep_inv hf n s ys s2 hs h3
    cases h4
    subst e
    rw [e1]
    simp [e2]
theorem Wt.list {α : Type} {f : Rr α} {F : α → List Int} (hf : Wt f F) : Wt (listP f) (listB F) := fun b xs r hb h => by
  unfold listP at h
  obtain ⟨n, s, rfl, hn, hs, h2⟩ := num_step hb h
  obtain ⟨e1, e2⟩ := rep_inv hf _ s xs r hs h2
  have : ((xs.length : Int) % 256) = n := by omega
  rw [e1]
  simp only [listB, this, List.cons_append]
theorem Wt.rf : Wt refP rfB := fun b x r hb h => by
  unfold refP at h
  obtain ⟨p, s, rfl, hp, hs, h⟩ := num_step hb h
  obtain ⟨c, s, rfl, hc, hs, h⟩ := num_step hs h
  cases h
  simp only [rfB, mod_byt hp, mod_byt hc, List.cons_append, List.nil_append]
theorem Wt.typ : Wt typP typB := fun b x r hb h => by
  unfold typP at h
  obtain ⟨k, s, rfl, hk, hs, h⟩ := num_step hb h
  split at h
  · cases h
  · split at h
    · rename_i h5
      obtain ⟨c, s, _, rfl, hs, h⟩ := Wt.rf.step hs h
      cases h
      subst h5
      rfl
    · rename_i h5
      cases h
      simp only [typB, mod_byt hk, if_neg h5, List.cons_append, List.nil_append]
theorem Wt.virt : Wt virtP byteB := fun b x r hb h => by
  unfold virtP at h
  obtain ⟨k, s, rfl, hk, hs, h⟩ := num_step hb h
  cases h
  by_cases e : k = 255
  · subst e; rfl
  · simp only [byteB, if_neg e, mod_byt hk, List.cons_append, List.nil_append]
theorem Wt.im : Wt implP imB := fun b x r hb h => by
  unfold implP at h
  obtain ⟨i, s, _, rfl, hs, h⟩ := Wt.rf.step hb h
  obtain ⟨ms, s, _, rfl, hs, h⟩ := Wt.num.list.step hs h
  cases h
  simp [imB]
theorem Wt.cl : Wt clP clB := fun b x r hb h => by
  unfold clP at h
  obtain ⟨n, s, rfl, hn, hs, h⟩ := num_step hb h
  split at h
  · cases h
  · obtain ⟨c, s, _, rfl, hs, h⟩ := Wt.rf.step hs h
    obtain ⟨l1, s, _, rfl, hs, h⟩ := Wt.rf.list.step hs h
    obtain ⟨l2, s, _, rfl, hs, h⟩ := Wt.typ.list.step hs h
    obtain ⟨l3, s, _, rfl, hs, h⟩ := Wt.virt.list.step hs h
    obtain ⟨l4, s, _, rfl, hs, h⟩ := Wt.im.list.step hs h
    cases h
    have e : (if (n == 1) = true then (1 : Int) else 0) = n := by
      by_cases e : n = 1
      · subst e; rfl
      · have : n = 0 := by omega
        subst this; rfl
    simp only [clB, e, List.append_assoc, List.cons_append, List.nil_append]
theorem Wt.wide : Wt wideP wideB := fun b x r hb h => by
  unfold wideP at h
  split at h
  · rename_i u v s
    cases h
    have h1 := hb u (by simp)
    have h2 := hb v (by simp)
    have e1 : (u * 256 + v) / 256 % 256 = u := by omega
    have e2 : (u * 256 + v) % 256 = v := by omega
    simp only [wideB, e1, e2, List.cons_append, List.nil_append]
  · cases h
theorem Wt.hd : Wt hdP hdB := fun b x r hb h => by
  unfold hdP at h
  obtain ⟨x1, s, _, rfl, hs, h⟩ := Wt.wide.step hb h
  obtain ⟨x2, s, _, rfl, hs, h⟩ := Wt.wide.step hs h
  obtain ⟨x3, s, _, rfl, hs, h⟩ := Wt.wide.step hs h
  obtain ⟨x4, s, _, rfl, hs, h⟩ := Wt.wide.step hs h
  cases h
  simp [hdB]
theorem Wt.op (f : Int) : Wt (opP f) (opB f) := fun b x r hb h => by
  unfold opP at h
  by_cases h0 : f = 0
  · subst h0; simp at h; obtain ⟨rfl, rfl⟩ := h; rfl
  · rw [if_neg h0] at h
    by_cases h1 : f = 1
    · subst h1
      rw [if_pos rfl] at h
      split at h
      · rename_i x1 x2 x3 x4 s
        cases h
        have q1 := hb x1 (by simp)
        have q2 := hb x2 (by simp)
        have q3 := hb x3 (by simp)
        have q4 := hb x4 (by simp)
        have e : ∃ v, v = sgn 4294967296 (x1 * 16777216 + x2 * 65536 + x3 * 256 + x4) := ⟨_, rfl⟩
        obtain ⟨v, hv⟩ := e
        rw [← hv]
        unfold sgn at hv
        have e1 : v / 16777216 % 256 = x1 := by split at hv <;> omega
        have e2 : v / 65536 % 256 = x2 := by split at hv <;> omega
        have e3 : v / 256 % 256 = x3 := by split at hv <;> omega
        have e4 : v % 256 = x4 := by split at hv <;> omega
        simp only [opB1, e1, e2, e3, e4, List.cons_append, List.nil_append]
      · cases h
    · rw [if_neg h1] at h
      rw [opBe h0 h1]
      split at h
      · rename_i y s
        have q := hb y (by simp)
        cases h
        by_cases h3 : f = 3
        · rw [if_pos h3]
          have e : sgn 256 y % 256 = y := by unfold sgn; split <;> omega
          simp only [e, List.cons_append, List.nil_append]
        · simp only [if_neg h3, mod_byt q, List.cons_append, List.nil_append]
      · cases h
theorem Wt.ins : Wt insP insB := fun b x r hb h => by
  unfold insP at h
  obtain ⟨o, s, rfl, ho, hs, h⟩ := num_step hb h
  split at h
  · cases h
  · obtain ⟨x1, s, _, rfl, hs, h⟩ := (Wt.op _).step hs h
    obtain ⟨x2, s, _, rfl, hs, h⟩ := (Wt.op _).step hs h
    obtain ⟨x3, s, _, rfl, hs, h⟩ := (Wt.op _).step hs h
    split at h
    · cases h
      simp only [insB, mod_byt ho, List.append_assoc, List.cons_append, List.nil_append]
    · cases h
theorem dec_inv : ∀ (m n : Nat) (b : List Int) (l : List In), byts b → b.length < m → decP m n b = .ok l → l.flatMap insB = b
  | 0, _, _, _, _, hl, _ => absurd hl (by omega)
  | m + 1, n, b, l, hb, hl, h => by
    rw [decP] at h
    split at h
    · rename_i e; cases h; rw [e]; rfl
    · split at h
      · cases h
      · split at h
        · rename_i i r hi
          have e := Wt.ins b i r hb hi
          subst e
          have hp := insB_pos i
          rw [List.length_append] at hl
          split at h
          · rename_i l' hl'
            cases h
            rw [List.flatMap_cons, dec_inv m (n + 1) r l' (byts_tail hb) (by omega) hl']
          · cases h
        · cases h
theorem Wt.code : Wt codeP (fun l => wideB ((l.flatMap insB).length : Int) ++ l.flatMap insB) := fun b x r hb h => by
  unfold codeP at h
  obtain ⟨n, s, _, rfl, hs, h⟩ := Wt.wide.step hb h
  have hn : 0 ≤ n := by
    rename_i hw
    unfold wideP at hw
    split at hw
    · rename_i u v t hq
      cases hw
      have h1 := hb u (by rw [hq]; simp)
      have h2 := hb v (by rw [hq]; simp)
      omega
    · cases hw
  obtain ⟨c, t, h1, h2⟩ := bind_inv h
  unfold bytesP at h1
  split at h1
  · cases h1
  · rename_i hlt
    cases h1
    split at h2
    · rename_i l' hl'
      cases h2
      have hc : byts (s.take n.toNat) := fun z hz => hs z (List.mem_of_mem_take hz)
      have e := dec_inv _ _ _ _ hc (by omega) hl'
      have el : ((s.take n.toNat).length : Int) = n := by rw [List.length_take]; omega
      simp only [e, el, List.append_assoc, List.take_append_drop]
    · cases h2
theorem Wt.me : Wt meP meB := fun b x r hb h => by
  unfold meP at h
  obtain ⟨n, s, rfl, hn, hs, h⟩ := num_step hb h
  split at h
  · cases h
  · obtain ⟨c, s, rfl, hc, hs, h⟩ := num_step hs h
    obtain ⟨l1, s, _, rfl, hs, h⟩ := Wt.typ.list.step hs h
    obtain ⟨t, s, _, rfl, hs, h⟩ := Wt.typ.step hs h
    obtain ⟨lo, s, rfl, hlo, hs, h⟩ := num_step hs h
    obtain ⟨st, s, rfl, hst, hs, h⟩ := num_step hs h
    obtain ⟨k, s, _, rfl, hs, h⟩ := Wt.code.step hs h
    obtain ⟨l2, s, _, rfl, hs, h⟩ := Wt.hd.list.step hs h
    cases h
    have e : ((if (n % 2 == 1) = true then (1 : Int) else 0) + (if decide (2 ≤ n) = true then 2 else 0)) % 256 = n := by
      have : n = 0 ∨ n = 1 ∨ n = 2 ∨ n = 3 := by omega
      rcases this with rfl | rfl | rfl | rfl <;> rfl
    simp only [meB, e, mod_byt hc, mod_byt hlo, mod_byt hst, List.append_assoc, List.cons_append, List.nil_append]
theorem bytes_mod {l : List Int} (hb : byts l) : l.flatMap (fun n : Int => [n % 256]) = l := by
  induction l with
  | nil => rfl
  | cons x l ih => rw [List.flatMap_cons, ih fun y hy => hb y (by simp [hy]), mod_byt (hb x (by simp))]; rfl
theorem Wt.aid : Wt aidP (listB (fun n : Int => [n % 256])) := fun b x r hb h => by
  unfold aidP at h
  obtain ⟨n, s, rfl, hn, hs, h⟩ := num_step hb h
  unfold bytesP at h
  split at h
  · cases h
  · cases h
    have hc : byts (s.take n.toNat) := fun z hz => hs z (List.mem_of_mem_take hz)
    have el : ((s.take n.toNat).length : Int) % 256 = n := by rw [List.length_take]; omega
    simp only [listB, bytes_mod hc, el, List.cons_append, List.take_append_drop]
theorem Wt.ip : Wt ipP ipB := fun b x r hb h => by
  unfold ipP at h
  obtain ⟨a, s, _, rfl, hs, h⟩ := Wt.aid.step hb h
  obtain ⟨x1, s, rfl, h1, hs, h⟩ := num_step hs h
  obtain ⟨x2, s, rfl, h2, hs, h⟩ := num_step hs h
  cases h
  simp only [ipB, mod_byt h1, mod_byt h2, List.append_assoc, List.cons_append, List.nil_append]
theorem Wt.ap : Wt apP apB := fun b x r hb h => by
  unfold apP at h
  obtain ⟨a, s, _, rfl, hs, h⟩ := Wt.aid.step hb h
  obtain ⟨x1, s, rfl, h1, hs, h⟩ := num_step hs h
  obtain ⟨x2, s, rfl, h2, hs, h⟩ := num_step hs h
  cases h
  simp only [apB, mod_byt h1, mod_byt h2, List.append_assoc, List.cons_append, List.nil_append]
theorem magic_inv {b r : List Int} {u : Unit} (h : magicP b = .ok (u, r)) : b = [83, 67, 49] ++ r := by
  unfold magicP at h
  obtain ⟨x, s, h1, h⟩ := bind_inv h
  have e1 := num_inv h1
  split at h
  · rename_i e; subst e
    obtain ⟨y, s2, h2, h⟩ := bind_inv h
    have e2 := num_inv h2
    split at h
    · rename_i e; subst e
      obtain ⟨z, s3, h3, h⟩ := bind_inv h
      have e3 := num_inv h3
      split at h
      · rename_i e; subst e
        cases h
        rw [e1, e2, e3]; rfl
      · cases h
    · cases h
  · cases h
/-- Bytes that are read are written as they were. -/
theorem pk_writes {b r : List Int} {x : Pk} (hb : byts b) (h : pkP b = .ok (x, r)) : pkB x = b ∧ r = [] := by
  unfold pkP at h
  obtain ⟨u, s, h1, h⟩ := bind_inv h
  have e0 := magic_inv h1
  subst e0
  have hs := byts_tail hb
  obtain ⟨a, s, _, rfl, hs, h⟩ := Wt.aid.step hs h
  obtain ⟨x1, s, rfl, q1, hs, h⟩ := num_step hs h
  obtain ⟨x2, s, rfl, q2, hs, h⟩ := num_step hs h
  obtain ⟨l1, s, _, rfl, hs, h⟩ := Wt.ip.list.step hs h
  obtain ⟨l2, s, _, rfl, hs, h⟩ := Wt.cl.list.step hs h
  obtain ⟨l3, s, _, rfl, hs, h⟩ := Wt.me.list.step hs h
  obtain ⟨l4, s, _, rfl, hs, h⟩ := Wt.typ.list.step hs h
  obtain ⟨l5, s, _, rfl, hs, h⟩ := Wt.ap.list.step hs h
  obtain ⟨u2, t, h2, h⟩ := bind_inv h
  unfold endP at h2
  split at h2
  · rename_i e
    cases h2
    cases h
    subst e
    refine ⟨?_, rfl⟩
    simp only [pkB, mod_byt q1, mod_byt q2, List.append_assoc, List.cons_append, List.nil_append, List.append_nil]
  · cases h2
end Go.Proofs.YthagkijplklemaaGreatDoor
end
