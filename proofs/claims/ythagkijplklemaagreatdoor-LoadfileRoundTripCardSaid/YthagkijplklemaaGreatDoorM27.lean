/- Plain: what is written is read as it was; what is read is written as it was. No program in sight. -/
import Derived.Test.YthagkijplklemaaGreatDoorM14
import Derived.Test.YthagkijplklemaaGreatDoorM11
import Derived.Test.YthagkijplklemaaGreatDoorM24
section
namespace Go.Proofs.YthagkijplklemaaGreatDoor
open Go.RowKit Go.Sc
/-- The bytes are read as x, whatever follows them. -/
def Reads {α : Type} (P : Rr α) (b : List Int) (x : α) : Prop := ∀ r, P (b ++ r) = .ok (x, r)
theorem Reads.bind {α β : Type} {p : Rr α} {f : α → Rr β} {a b : List Int} {x : α} {y : β} (h : Reads p a x) (k : Reads (f x) b y) : Reads (p.bind f) (a ++ b) y := fun r => by
  rw [List.append_assoc, Rr.bind_ok (h _)]; exact k r
theorem Reads.pure {α : Type} (x : α) : Reads (Rr.pure x) [] x := fun _ => rfl
theorem Reads.num (n : Int) : Reads numP [n] n := fun _ => rfl
theorem Reads.eq {α : Type} {P : Rr α} {a b : List Int} {x y : α} (h : Reads P a x) (e : a = b) (e2 : x = y) : Reads P b y := e ▸ e2 ▸ h
theorem Reads.rep {α : Type} {F : α → List Int} {f : Rr α} {er : α → α} : ∀ {xs : List α}, (∀ x ∈ xs, Reads f (F x) (er x)) → Reads (repP f xs.length) (xs.flatMap F) (xs.map er)
  | [], _ => Reads.pure []
  | x :: xs, h => by
    rw [List.flatMap_cons, List.length_cons, List.map_cons, repP]
    have ih := Reads.rep (F := F) (f := f) (er := er) (xs := xs) fun y hy => h y (by simp [hy])
    have k2 : Reads ((repP f xs.length).bind fun ys => Rr.pure (er x :: ys)) (xs.flatMap F ++ []) (er x :: xs.map er) := ih.bind (Reads.pure _)
    rw [List.append_nil] at k2
    exact (h x (by simp)).bind k2
theorem Reads.list {α : Type} {F : α → List Int} {f : Rr α} {er : α → α} {xs : List α} (hl : xs.length ≤ 255) (h : ∀ x ∈ xs, Reads f (F x) (er x)) : Reads (listP f) (listB F xs) (xs.map er) := by
  have e : ((xs.length : Int) % 256) = xs.length := by omega
  unfold listP
  show Reads _ ([(xs.length : Int) % 256] ++ xs.flatMap F) _
  rw [e]
  exact (Reads.num _).bind (by simpa using Reads.rep h)
theorem mod_byt {n : Int} (h : 0 ≤ n ∧ n ≤ 255) : n % 256 = n := by omega
theorem Reads.rf {r : Rf} (h1 : 0 ≤ r.p ∧ r.p ≤ 255) (h2 : 0 ≤ r.c ∧ r.c ≤ 255) : Reads refP (rfB r) r := fun s => by
  simp [rfB, refP, numP, Rr.bind, Rr.pure, mod_byt h1, mod_byt h2]
/-- A type that can be written. -/
def TyW (t : Ty) : Prop := (t.k = 5 ∧ (0 ≤ t.c.p ∧ t.c.p ≤ 255) ∧ 0 ≤ t.c.c ∧ t.c.c ≤ 255) ∨ (0 ≤ t.k ∧ t.k < 5 ∧ t.c.p = 0 ∧ t.c.c = 0)
theorem Reads.typ {t : Ty} (h : TyW t) : Reads typP (typB t) t := by
  rcases h with ⟨h0, h1, h2⟩ | ⟨h0, h1, h2, h3⟩
  · obtain ⟨k, c⟩ := t
    simp only at h0 h1 h2
    subst h0
    intro s
    have := Reads.rf h1 h2 s
    simp only [rfB] at this
    simp [typB, typP, numP, Rr.bind, Rr.pure] at this ⊢
    rw [this]
  · obtain ⟨k, ⟨a, b⟩⟩ := t
    simp only at h0 h1 h2 h3
    subst h2 h3
    intro s
    have e : ¬ k = 5 := by omega
    have e1 : ¬ 5 < k := by omega
    simp [typB, typP, numP, Rr.bind, Rr.pure, e, e1, mod_byt (n := k) (by omega)]
theorem below_iff {n m : Int} : below n m = true ↔ 0 ≤ n ∧ n < m := by unfold below; simp
theorem inRange_byt {ni nc : Nat} {r : Rf} (hi : ni ≤ 4) (hc : nc ≤ 32) (h : inRange ni nc r = true) : (0 ≤ r.p ∧ r.p ≤ 255) ∧ 0 ≤ r.c ∧ r.c ≤ 255 := by
  unfold inRange at h
  split at h
  · rw [below_iff] at h; omega
  · split at h
    · simp at h; omega
    · simp [below_iff] at h; omega
theorem usable_w {ni nc : Nat} {t : Ty} (hi : ni ≤ 4) (hc : nc ≤ 32) (h : usable ni nc t = true) : TyW t := by
  unfold usable at h
  split at h
  · rename_i e
    exact .inl ⟨e, inRange_byt hi hc h⟩
  · simp at h
    exact .inr ⟨by omega, by omega, h.2.2.1, h.2.2.2⟩
theorem Reads.virt {m : Int} (h : -1 ≤ m ∧ m < 255) : Reads virtP (byteB m) m := fun r => by
  by_cases e : m = -1
  · subst e; rfl
  · have e1 : m % 256 = m := by omega
    have e2 : ¬ m = 255 := by omega
    simp [byteB, virtP, numP, Rr.bind, Rr.pure, e1, e2]
theorem Reads.byte {m : Int} (h : 0 ≤ m ∧ m ≤ 255) : Reads numP (byteB m) m := fun r => by simp [byteB, numP, mod_byt h]
theorem Reads.im {y : Im} (h : (0 ≤ y.i.p ∧ y.i.p ≤ 255) ∧ 0 ≤ y.i.c ∧ y.i.c ≤ 255) (hl : y.ms.xs.length ≤ 255) (hm : ∀ m ∈ y.ms.xs, 0 ≤ m ∧ m ≤ 255) : Reads implP (imB y) (Im.er y) := by
  unfold implP imB
  refine (Reads.rf h.1 h.2).bind ?_
  have a1 := Reads.list (F := byteB) (f := numP) (er := id) (xs := y.ms.xs) hl fun m hm' => Reads.byte (hm m hm')
  rw [List.map_id] at a1
  have k2 : Reads ((listP numP).bind fun ms => Rr.pure (⟨y.i, .er ms⟩ : Im)) (listB byteB y.ms.xs ++ []) (Im.er y) := a1.bind (Reads.pure _)
  rw [List.append_nil] at k2
  exact k2
theorem Reads.cl {x : Cl} (hs : (0 ≤ x.super.p ∧ x.super.p ≤ 255) ∧ 0 ≤ x.super.c ∧ x.super.c ≤ 255) (l1 : x.ext.xs.length ≤ 255) (l2 : x.fields.xs.length ≤ 255) (l3 : x.virt.xs.length ≤ 255) (l4 : x.impls.xs.length ≤ 255)
    (h1 : ∀ r ∈ x.ext.xs, (0 ≤ r.p ∧ r.p ≤ 255) ∧ 0 ≤ r.c ∧ r.c ≤ 255) (h2 : ∀ t ∈ x.fields.xs, TyW t) (h3 : ∀ m ∈ x.virt.xs, -1 ≤ m ∧ m < 255) (h4 : ∀ y ∈ x.impls.xs, ((0 ≤ y.i.p ∧ y.i.p ≤ 255) ∧ 0 ≤ y.i.c ∧ y.i.c ≤ 255) ∧ y.ms.xs.length ≤ 255 ∧ ∀ m ∈ y.ms.xs, 0 ≤ m ∧ m ≤ 255) :
    Reads clP (clB x) (Cl.er x) := by
  have a1 := Reads.list (er := id) l1 fun r hr => Reads.rf (h1 r hr).1 (h1 r hr).2
  have a2 := Reads.list (er := id) l2 fun t ht => Reads.typ (h2 t ht)
  have a3 := Reads.list (er := id) l3 fun m hm => Reads.virt (h3 m hm)
  have a4 := Reads.list (er := Im.er) l4 fun y hy => Reads.im (h4 y hy).1 (h4 y hy).2.1 (h4 y hy).2.2
  rw [List.map_id] at a1 a2 a3
  have key : ∀ n : Int, n = (if x.isI then 1 else 0) → Reads clP ([n] ++ (rfB x.super ++ (listB rfB x.ext.xs ++ (listB typB x.fields.xs ++ (listB byteB x.virt.xs ++ (listB imB x.impls.xs ++ [])))))) (Cl.er x) := by
    intro n hn
    unfold clP
    refine (Reads.num n).bind ?_
    have e : ¬ 1 < n := by rw [hn]; split <;> omega
    have e2 : (n == 1) = x.isI := by rw [hn]; cases x.isI <;> rfl
    rw [if_neg e, e2]
    exact (Reads.rf hs.1 hs.2).bind (a1.bind (a2.bind (a3.bind (a4.bind (Reads.pure _)))))
  exact (key _ rfl).eq (by simp [clB]) rfl
theorem Reads.wide {x : Int} (h : 0 ≤ x ∧ x ≤ 65535) : Reads wideP (wideB x) x := fun r => by
  have e : x / 256 % 256 * 256 + x % 256 = x := by omega
  show Except.ok (x / 256 % 256 * 256 + x % 256, r) = _
  rw [e]
theorem Reads.hd {h : Hd} (h1 : 0 ≤ h.f ∧ h.f ≤ 65535) (h2 : 0 ≤ h.t ∧ h.t ≤ 65535) (h3 : 0 ≤ h.g ∧ h.g ≤ 65535) (h4 : 0 ≤ h.w ∧ h.w ≤ 65535) : Reads hdP (hdB h) h := by
  have key : Reads hdP (wideB h.f ++ (wideB h.t ++ (wideB h.g ++ (wideB h.w ++ [])))) h := (Reads.wide h1).bind ((Reads.wide h2).bind ((Reads.wide h3).bind ((Reads.wide h4).bind (Reads.pure _))))
  exact key.eq (by simp [hdB]) rfl
theorem op_reads {f n g : Int} (h : opE f n g = 0) : Reads (opP f) (opB f n) n := by
  intro r
  unfold opE at h
  by_cases h0 : f = 0
  · subst h0
    simp at h
    subst h
    rfl
  · rw [if_neg h0] at h
    by_cases h1 : f = 1
    · subst h1
      have hl : lim 1 g = (-2147483648, 2147483647) := rfl
      rw [hl] at h
      simp at h
      have hn : -2147483648 ≤ n ∧ n ≤ 2147483647 := by omega
      show Except.ok (sgn 4294967296 (n / 16777216 % 256 * 16777216 + n / 65536 % 256 * 65536 + n / 256 % 256 * 256 + n % 256), r) = _
      have e : sgn 4294967296 (n / 16777216 % 256 * 16777216 + n / 65536 % 256 * 65536 + n / 256 % 256 * 256 + n % 256) = n := by
        unfold sgn
        split <;> omega
      rw [e]
    · have e0 : opB f n = [n % 256] := by unfold opB; rw [if_neg h0, if_neg h1]
      rw [e0]
      unfold opP
      rw [if_neg h0, if_neg h1]
      show Except.ok (if f = 3 then sgn 256 (n % 256) else n % 256, r) = _
      by_cases h3 : f = 3
      · subst h3
        have hl : lim 3 g = (-128, 127) := rfl
        rw [hl] at h
        simp at h
        rw [if_pos rfl]
        have e : sgn 256 (n % 256) = n := by
          unfold sgn
          split <;> omega
        rw [e]
      · rw [if_neg h3]
        have hn : 0 ≤ n ∧ n ≤ 255 := by
          by_cases h5 : f = 5 ∧ n = 255
          · omega
          · have hb : 0 ≤ (lim f g).1 ∧ (lim f g).2 ≤ 255 := by
              unfold lim
              rw [if_neg h1]
              repeat' split
              all_goals first | omega | (simp; done)
            split at h
            · cases h
            · rename_i hx
              omega
        rw [mod_byt hn]
theorem ins_reads {i : In} (h : insE i = 0) : Reads insP (insB i) i := by
  have h0 := h
  unfold insE at h
  split at h
  · cases h
  · rename_i ho
    split at h
    · rename_i ha
      split at h
      · rename_i hb
        have key : Reads insP ([i.op % 256] ++ (opB (frm i.op).1 i.a ++ (opB (frm i.op).2.1 i.b ++ (opB (frm i.op).2.2 i.c ++ [])))) i := by
          rw [mod_byt (n := i.op) (by omega)]
          unfold insP
          refine (Reads.num _).bind ?_
          rw [if_neg (by omega)]
          refine (op_reads ha).bind ((op_reads hb).bind ((op_reads h).bind ?_))
          have e : (⟨i.op, i.a, i.b, i.c⟩ : In) = i := rfl
          rw [e, if_pos h0]
          exact Reads.pure i
        exact key.eq (by simp [insB]) rfl
      · contradiction
    · contradiction
theorem insB_pos (i : In) : 1 ≤ (insB i).length := by unfold insB; simp only [List.length_append, List.length_singleton]; omega
theorem dec_reads : ∀ (l : List In) (m n : Nat), (∀ i ∈ l, insE i = 0) → n + l.length ≤ 256 → (l.flatMap insB).length < m → decP m n (l.flatMap insB) = .ok l
  | [], 0, _, _, _, h => absurd h (by omega)
  | [], m + 1, n, _, _, _ => by simp [decP]
  | i :: l, 0, _, _, _, h => absurd h (by omega)
  | i :: l, m + 1, n, hi, hn, hm => by
    have hp := insB_pos i
    rw [List.flatMap_cons] at hm ⊢
    rw [List.length_append] at hm
    have hne : ¬ insB i ++ l.flatMap insB = [] := by intro e; rw [List.append_eq_nil_iff] at e; rw [e.1] at hp; simp at hp
    rw [decP, if_neg hne, if_neg (by simp at hn; omega), ins_reads (hi i (by simp)) (l.flatMap insB)]
    simp only
    rw [dec_reads l m (n + 1) (fun j hj => hi j (by simp [hj])) (by simp at hn; omega) (by omega)]
theorem Reads.bytes (l : List Int) : Reads (bytesP l.length) l l := fun r => by unfold bytesP; rw [if_neg (by simp)]; simp
theorem Reads.code {l : List In} (hl : l.length ≤ 256) (hi : ∀ i ∈ l, insE i = 0) : Reads codeP (wideB ((l.flatMap insB).length : Int) ++ l.flatMap insB) l := by
  have hb := flatMap_le' (F := insB) (m := 13) l fun i _ => insB_le i
  unfold codeP
  refine (Reads.wide (by omega)).bind fun r => ?_
  rw [Int.toNat_natCast, Rr.bind_ok (Reads.bytes _ r), dec_reads l _ 0 hi (by omega) (by omega)]
/-- What a method that Check accepts is like. -/
structure MeW (m : Me) : Prop where
  cls : 0 ≤ m.cls ∧ m.cls ≤ 255
  pl : m.params.xs.length ≤ 255
  ps : ∀ t ∈ m.params.xs, TyW t
  res : TyW m.result
  loc : 0 ≤ m.locals ∧ m.locals ≤ 255
  stk : 0 ≤ m.stack ∧ m.stack ≤ 255
  cl : m.code.xs.length ≤ 256
  ci : ∀ i ∈ m.code.xs, insE i = 0
  hl : m.hs.xs.length ≤ 255
  hs : ∀ h ∈ m.hs.xs, (0 ≤ h.f ∧ h.f ≤ 65535) ∧ (0 ≤ h.t ∧ h.t ≤ 65535) ∧ (0 ≤ h.g ∧ h.g ≤ 65535) ∧ 0 ≤ h.w ∧ h.w ≤ 65535
theorem Reads.me {m : Me} (h : MeW m) : Reads meP (meB m) (Me.er m) := by
  have a1 := Reads.list (er := id) h.pl fun t ht => Reads.typ (h.ps t ht)
  have a2 := Reads.list (er := id) h.hl fun x hx => Reads.hd (h.hs x hx).1 (h.hs x hx).2.1 (h.hs x hx).2.2.1 (h.hs x hx).2.2.2
  rw [List.map_id] at a1 a2
  have key : ∀ n : Int, n = (if m.static then 1 else 0) + (if m.abs then 2 else 0) → Reads meP ([n] ++ ([m.cls] ++ (listB typB m.params.xs ++ (typB m.result ++ ([m.locals] ++ ([m.stack] ++ ((wideB ((m.code.xs.flatMap insB).length : Int) ++ m.code.xs.flatMap insB) ++ (listB hdB m.hs.xs ++ [])))))))) (Me.er m) := by
    intro n hn
    unfold meP
    refine (Reads.num n).bind ?_
    have e : ¬ 3 < n := by rw [hn]; cases m.static <;> cases m.abs <;> simp
    have e2 : (n % 2 == 1) = m.static := by rw [hn]; cases m.static <;> cases m.abs <;> rfl
    have e3 : decide (2 ≤ n) = m.abs := by rw [hn]; cases m.static <;> cases m.abs <;> rfl
    rw [if_neg e, e2, e3]
    exact (Reads.num _).bind (a1.bind ((Reads.typ h.res).bind ((Reads.num _).bind ((Reads.num _).bind ((Reads.code h.cl h.ci).bind (a2.bind (Reads.pure _)))))))
  refine (key (((if m.static then 1 else 0) + (if m.abs then 2 else 0)) % 256) ?_).eq ?_ rfl
  · cases m.static <;> cases m.abs <;> rfl
  · rw [meB, mod_byt h.cls, mod_byt h.loc, mod_byt h.stk]
    simp
theorem Reads.aid {l : List Int} (hl : l.length ≤ 255) (hb : ∀ x ∈ l, 0 ≤ x ∧ x ≤ 255) : Reads aidP (listB (fun n : Int => [n % 256]) l) l := by
  have e : l.flatMap (fun n : Int => [n % 256]) = l := by
    induction l with
    | nil => rfl
    | cons x l ih => rw [List.flatMap_cons, ih (by simp at hl; omega) fun y hy => hb y (by simp [hy]), mod_byt (hb x (by simp))]; rfl
  have e1 : ((l.length : Int) % 256) = l.length := by omega
  unfold aidP
  show Reads _ ([(l.length : Int) % 256] ++ l.flatMap _) _
  rw [e, e1]
  exact (Reads.num _).bind (by simpa using Reads.bytes l)
theorem Reads.ip {x : Ip} (hl : x.aid.xs.length ≤ 255) (hb : ∀ n ∈ x.aid.xs, 0 ≤ n ∧ n ≤ 255) (h1 : 0 ≤ x.major ∧ x.major ≤ 255) (h2 : 0 ≤ x.minor ∧ x.minor ≤ 255) : Reads ipP (ipB x) (Ip.er x) := by
  unfold ipP
  rw [ipB, mod_byt h1, mod_byt h2]
  exact (Reads.aid hl hb).bind ((Reads.num x.major).bind ((Reads.num x.minor).bind (Reads.pure _)))
theorem Reads.ap {x : Ap} (hl : x.aid.xs.length ≤ 255) (hb : ∀ n ∈ x.aid.xs, 0 ≤ n ∧ n ≤ 255) (h1 : 0 ≤ x.cls ∧ x.cls ≤ 255) (h2 : 0 ≤ x.inst ∧ x.inst ≤ 255) : Reads apP (apB x) (Ap.er x) := by
  unfold apP
  rw [apB, mod_byt h1, mod_byt h2]
  exact (Reads.aid hl hb).bind ((Reads.num x.cls).bind ((Reads.num x.inst).bind (Reads.pure _)))
theorem allUsable_w {p : Pk} {l : List Ty} (hc : counts p) (h : allUsable p l = true) : ∀ t ∈ l, TyW t := fun t ht => by
  unfold allUsable at h
  rw [List.all_eq_true] at h
  exact usable_w hc.1 hc.2.1 (h t ht)
theorem met_w {p : Pk} {m : Me} (hc : counts p) (h : metE p m = 0) : MeW m := by
  obtain ⟨s1, s2, s3, s4⟩ := met_small h
  unfold metE at h
  split at h
  · cases h
  · rename_i q1
    split at h
    · cases h
    · split at h
      · cases h
      · rename_i q3
        have hps : allUsable p m.params.xs = true := by
          cases e : allUsable p m.params.xs with
          | true => rfl
          | false => exact absurd (.inl e) q3
        have hres : TyW m.result := by
          by_cases e : m.result.k = 0 ∧ m.result.c.p = 0 ∧ m.result.c.c = 0
          · exact .inr ⟨by omega, by omega, e.2.1, e.2.2⟩
          · refine usable_w (ni := p.imports.xs.length) (nc := p.classes.xs.length) hc.1 hc.2.1 ?_
            cases e2 : usable p.imports.xs.length p.classes.xs.length m.result with
            | true => rfl
            | false => exact absurd (.inr ⟨by omega, e2⟩) q3
        have hcls : 0 ≤ m.cls ∧ m.cls ≤ 255 := by
          have h2 := hc.2.1
          cases e : m.static with
          | true =>
            have : m.cls = 0 := by
              apply Classical.byContradiction
              intro hne
              exact q1 (.inl ⟨e, hne⟩)
            omega
          | false =>
            have : below m.cls p.classes.xs.length = true := by
              cases e2 : below m.cls p.classes.xs.length with
              | true => rfl
              | false => exact absurd (.inr ⟨e, e2⟩) q1
            rw [below_iff] at this
            omega
        split at h
        · cases h
        · split at h
          · split at h
            · cases h
            · rename_i z
              have hh : m.hs.xs = [] := List.eq_nil_of_length_eq_zero (by omega)
              exact ⟨hcls, by omega, allUsable_w hc hps, hres, by omega, by omega, s2, s4, by omega, by simp [hh]⟩
          · split at h
            · cases h
            · rename_i z
              split at h
              · cases h
              · split at h
                · cases h
                · split at h
                  · have hz := firstE_zero h
                    refine ⟨hcls, by omega, allUsable_w hc hps, hres, ?_, by omega, s2, s4, by omega, fun x hx => ?_⟩
                    · cases e : m.static <;> simp [e] at z <;> omega
                    · obtain ⟨j, hj⟩ := List.mem_iff_getElem?.1 hx
                      have := hz j x hj
                      unfold hdE at this
                      split at this
                      · cases this
                      · rename_i y
                        have hg : below x.g m.code.xs.length = true := by
                          cases e2 : below x.g m.code.xs.length with
                          | true => rfl
                          | false => exact absurd (.inr (.inr (.inr (.inl e2)))) y
                        rw [below_iff] at hg
                        omega
                  · contradiction
theorem cls_w {p : Pk} {k : Int} {x : Cl} (hc : counts p) (h : clsE p k x = 0) : Reads clP (clB x) (Cl.er x) := by
  have rng : ∀ {r : Rf} {n : Int}, belowE p.imports.xs.length p.classes.xs.length r n = 0 → (0 ≤ r.p ∧ r.p ≤ 255) ∧ 0 ≤ r.c ∧ r.c ≤ 255 := by
    intro r n hb
    unfold belowE at hb
    split at hb
    · rename_i hr
      exact inRange_byt hc.1 hc.2.1 hr
    · cases hb
  unfold clsE at h
  split at h
  · rename_i h0
    split at h
    · cases h
    · split at h
      · cases h
      · rename_i hl
        split at h
        · rename_i h1
          split at h
          · rename_i h2
            split at h
            · rename_i h3
              refine Reads.cl (rng h0) (by omega) (by omega) (by omega) (by omega) (fun r hr => ?_) (allUsable_w hc h2) (fun m hm => ?_) (fun y hy => ?_)
              · obtain ⟨j, hj⟩ := List.mem_iff_getElem?.1 hr
                exact rng (firstE_zero h1 j r hj)
              · obtain ⟨j, hj⟩ := List.mem_iff_getElem?.1 hm
                have := firstE_zero h3 j m hj
                have h64 := hc.2.2.1
                unfold virtE at this
                split at this
                · omega
                · split at this
                  · omega
                  · cases this
              · obtain ⟨j, hj⟩ := List.mem_iff_getElem?.1 hy
                have := firstE_zero h j y hj
                unfold implE at this
                split at this
                · rename_i hr
                  split at this
                  · cases this
                  · split at this
                    · cases this
                    · split at this
                      · cases this
                      · rename_i hany
                        refine ⟨inRange_byt hc.1 hc.2.1 hr, by omega, fun m hm => ?_⟩
                        have hb : below m 16 = true := by
                          cases e : below m 16 with
                          | true => rfl
                          | false => exact absurd (List.any_eq_true.2 ⟨m, hm, by simp [e]⟩) hany
                        rw [below_iff] at hb
                        omega
                · cases this
            · contradiction
          · cases h
        · contradiction
  · contradiction
/-- The bytes of a package's identifiers are bytes. -/
def aidsOk (p : Pk) : Prop := (∀ n ∈ p.aid.xs, 0 ≤ n ∧ n ≤ 255) ∧ (∀ x ∈ p.imports.xs, ∀ n ∈ x.aid.xs, 0 ≤ n ∧ n ≤ 255) ∧ ∀ x ∈ p.applets.xs, ∀ n ∈ x.aid.xs, 0 ≤ n ∧ n ≤ 255
theorem isName_le {n : Nat} (h : isName n = true) : n ≤ 16 := by unfold isName at h; simp at h; omega
theorem isByte_iff {n : Int} : isByte n = true ↔ 0 ≤ n ∧ n ≤ 255 := by unfold isByte; simp
/-- A package that Check accepts is read as it was written. -/
theorem pk_reads {p : Pk} (ha : aidsOk p) (h : checkE p = 0) : pkP (pkB p) = .ok (Pk.er p, []) := by
  obtain ⟨hco, hlen, hc, hn⟩ := check_codes h
  unfold checkE at h
  split at h
  · cases h
  · split at h
    · cases h
    · rename_i hv
      have hv1 : isByte p.major = true := by cases e : isByte p.major; exact absurd (.inl e) hv; rfl
      have hv2 : isByte p.minor = true := by cases e : isByte p.minor; exact absurd (.inr e) hv; rfl
      rw [isByte_iff] at hv1 hv2
      split at h
      · cases h
      · unfold partsE at h
        split at h
        · rename_i h1
          split at h
          · rename_i h2
            split at h
            · rename_i h3
              split at h
              · rename_i h4
                split at h
                · rename_i h5
                  have a0 := Reads.aid (l := p.aid.xs) (by have := isName_le hn; omega) ha.1
                  have a1 := Reads.list (f := ipP) (F := ipB) (er := Ip.er) (xs := p.imports.xs) (by have := hc.1; omega) fun x hx => by
                    obtain ⟨j, hj⟩ := List.mem_iff_getElem?.1 hx
                    have := firstE_zero h1 j x hj
                    unfold impE at this
                    split at this
                    · rename_i q
                      split at this
                      · rename_i q2
                        simp only [Bool.and_eq_true, isByte_iff] at q2
                        exact Reads.ip (by have := isName_le q; omega) (ha.2.1 x hx) q2.1 q2.2
                      · cases this
                    · cases this
                  have a2 := Reads.list (f := clP) (F := clB) (er := Cl.er) (xs := p.classes.xs) (by have := hc.2.1; omega) fun x hx => by
                    obtain ⟨j, hj⟩ := List.mem_iff_getElem?.1 hx
                    exact cls_w hc (firstE_zero h2 j x hj)
                  have a3 := Reads.list (f := meP) (F := meB) (er := Me.er) (xs := p.methods.xs) (by have := hc.2.2.1; omega) fun x hx => by
                    obtain ⟨j, hj⟩ := List.mem_iff_getElem?.1 hx
                    exact Reads.me (met_w hc (firstE_zero h3 j x hj))
                  have a4 := Reads.list (f := typP) (F := typB) (er := id) (xs := p.statics.xs) (by have := hc.2.2.2.1; omega) fun x hx => Reads.typ (allUsable_w hc h4 x hx)
                  have a5 := Reads.list (f := apP) (F := apB) (er := Ap.er) (xs := p.applets.xs) (by have := hc.2.2.2.2; omega) fun x hx => by
                    obtain ⟨j, hj⟩ := List.mem_iff_getElem?.1 hx
                    have := firstE_zero h5 j x hj
                    unfold appE at this
                    split at this
                    · cases this
                    · rename_i q
                      have q' : isName x.aid.xs.length = true := by simpa using q
                      split at this
                      · cases this
                      · split at this
                        · cases this
                        · rename_i q2
                          have b1 : below x.cls p.classes.xs.length = true := by
                            cases e : below x.cls p.classes.xs.length with
                            | true => rfl
                            | false => exact absurd (.inl e) q2
                          have b2 : below x.inst p.methods.xs.length = true := by
                            cases e : below x.inst p.methods.xs.length with
                            | true => rfl
                            | false => exact absurd (.inr e) q2
                          rw [below_iff] at b1 b2
                          have c2 := hc.2.1
                          have c3 := hc.2.2.1
                          exact Reads.ap (by have := isName_le q'; omega) (ha.2.2 x hx) (by omega) (by omega)
                  rw [List.map_id] at a4
                  have m0 : Reads magicP [83, 67, 49] () := fun r => rfl
                  have e0 : pkB p = [83, 67, 49] ++ (listB (fun n : Int => [n % 256]) p.aid.xs ++ ([p.major] ++ ([p.minor] ++ (listB ipB p.imports.xs ++ (listB clB p.classes.xs ++ (listB meB p.methods.xs ++ (listB typB p.statics.xs ++ (listB apB p.applets.xs ++ [])))))))) := by
                    rw [pkB, mod_byt hv1, mod_byt hv2]; simp
                  have hk : ∀ {α : Type} {P : Rr α} {f : α → Rr Pk} {a b : List Int} {x : α} {y : Except Int (Pk × List Int)}, Reads P a x → f x b = y → P.bind f (a ++ b) = y := fun h1 h2 => by rw [Rr.bind_ok (h1 _)]; exact h2
                  rw [e0]
                  unfold pkP
                  exact hk m0 (hk a0 (hk (Reads.num _) (hk (Reads.num _) (hk a1 (hk a2 (hk a3 (hk a4 (hk a5 rfl))))))))
                · contradiction
              · cases h
            · contradiction
          · contradiction
        · contradiction
end Go.Proofs.YthagkijplklemaaGreatDoor
end
