/- The program's reader: bytes, number, wide, aid. The reference's reader: where it stands, and what has come of it. No program in sight. -/
import Derived.Test.YthagkijplklemaaGreatDoorS09
import Derived.Test.YthagkijplklemaaGreatDoorS13
import Derived.Test.YthagkijplklemaaGreatDoorS17
import Derived.WalkSpells
import Derived.Outline
section
namespace Go.Proofs.YthagkijplklemaaGreatDoor
open Go.ChangeShapes Go.WideShapes Go.ChangeAt Go.RowKit Go.Sc
/-- A slice of bytes that does not lie in block p. -/
def RepB (p : Nat) : Rp (List Int) := fun _ w v x => ∃ (a : Option Addr) (c : Nat), v = .slice a x.length c ∧ Bytes w ⟨a, c, x⟩ ∧ ∀ b o q, a = some ⟨b, o, q⟩ → b < p
theorem addr_add (b o k : Nat) : (⟨b, o, none⟩ : Addr).add k = ⟨b, o + k, none⟩ := by unfold Addr.add; split <;> simp_all
theorem bytes_take {w : World} {a : Option Addr} {c k : Nat} {bs : List Int} (h : Bytes w ⟨a, c, bs⟩) (hk : k ≤ bs.length) : Bytes w ⟨a, k, bs.take k⟩ :=
  ⟨by simp; omega, by have := h.max; have := h.le; simp only at *; omega, fun e => by have := h.nil e; have := h.le; simp only at *; omega, fun j x hx => h.at_ j x (by
    simp only [List.getElem?_take] at hx
    split at hx
    · exact hx
    · cases hx)⟩
theorem bytes_drop {w : World} {a : Option Addr} {c k : Nat} {bs : List Int} (h : Bytes w ⟨a, c, bs⟩) (hk : k ≤ bs.length) : Bytes w ⟨a.map (·.add k), c - k, bs.drop k⟩ := by
  have hle := h.le
  have hmx := h.max
  simp only at hle hmx
  refine ⟨by simp; omega, by simp only; omega, fun e => ?_, fun j x hx => ?_⟩
  · cases a with
    | none => have := h.nil rfl; simp only at *; omega
    | some ad => simp at e
  · rw [List.getElem?_drop] at hx
    obtain ⟨h1, b, off, h2, h3, h4⟩ := h.at_ (k + j) x hx
    simp only at h2
    subst h2
    refine ⟨h1, b, off + k, by simp [addr_add], h3, fun i v hv => ?_⟩
    have := h4 i v hv
    rw [show off + k + j * 1 + i = off + (k + j) * 1 + i from by omega]
    exact this
theorem rbytes_close {U : TypeId} {p k : Nat} {w : World} {bs : List Int} {a A : Option Addr} {c C : Nat} (hR : Rd p w bs) (hc : w.cell? ⟨p, 0, none⟩ = some (.slice a bs.length c)) (hb : Bytes w ⟨a, c, bs⟩) (hne : ∀ b o q, a = some ⟨b, o, q⟩ → b < p)
    (hk : k ≤ bs.length) (hA : (c = k ∧ A = a ∧ C = 0) ∨ (A = a.map (·.add k) ∧ C = c - k)) :
    RdOut U p w (bytesP k bs) (RepB p) (.returned (.slice a k k)) (w.setCell ⟨p, 0, none⟩ (.slice A (bs.length - k) C)) := by
  have hle := hb.le
  simp only at hle
  have hsz : (w.setCell ⟨p, 0, none⟩ (.slice A (bs.length - k) C)).heap.size = w.heap.size := by simp [World.setCell]
  have hsame : ∀ {s : Sl Int}, Bytes w s → (∀ b o q, s.a = some ⟨b, o, q⟩ → b < p) → Bytes (w.setCell ⟨p, 0, none⟩ (.slice A (bs.length - k) C)) s := fun hs hn =>
    bytes_same hs (by rw [hsz]; exact Nat.le_refl _) fun b o e => Below.heap_setCell _ _ _ _ (Nat.ne_of_lt (hn b o none e))
  refine RdOut.ret (x := bs.take k) (rest := bs.drop k) (Fp.refl.setCell (.inl rfl) _) (by unfold bytesP; rw [if_neg (by omega)]) ⟨a, k, by simp; omega, hsame (bytes_take hb hk) hne, hne⟩ ?_
  refine ⟨by rw [hsz]; exact hR.1, by simpa using hR.2.1, A, C, ?_, ?_, ?_⟩
  · rw [World.cell?_setCell_same' _ _ _ (by rw [hc]; rfl)]; simp
  · rcases hA with ⟨h1, rfl, rfl⟩ | ⟨rfl, rfl⟩
    · have : bs.drop k = [] := List.drop_eq_nil_of_le (by omega)
      rw [this]
      refine ⟨by simp, by simp, fun _ => rfl, fun j x hx => by simp at hx⟩
    · refine hsame (bytes_drop hb hk) fun b o q e => ?_
      cases a with
      | none => simp at e
      | some ad =>
        simp at e
        obtain ⟨b', o', q'⟩ := ad
        have : b = b' := by unfold Addr.add at e; split at e <;> simp at e <;> exact e.1.symm
        subst this
        exact hne b o' q' rfl
  · intro b o q e
    rcases hA with ⟨h1, rfl, rfl⟩ | ⟨rfl, rfl⟩
    · exact hne b o q e
    · cases a with
      | none => simp at e
      | some ad =>
        simp at e
        obtain ⟨b', o', q'⟩ := ad
        have : b = b' := by unfold Addr.add at e; split at e <;> simp at e <;> exact e.1.symm
        subst this
        exact hne b o' q' rfl
set_option maxHeartbeats 1000000 in
theorem rbytes_any (p k : Nat) (w : World) (bs : List Int) (hR : Hid (Rd p w bs)) : Parses 101 Tryz.prog 192 #[.pointer (some ⟨p, 0, none⟩), .int .i64 k] p w (bytesP k bs) (RepB p) := by
  unfold Parses
  obtain ⟨hlt, hfz, a, c, hc, hb, hne⟩ := hR.out
  have hle := hb.le
  have hmx := hb.max
  simp only at hle hmx
  have HB := hid hb
  have HNE := hid hne
  clear hb hne
  by_cases h : bs.length < k
  · have HE : Hid (bytesP k bs = .error 5) := by
      have : bytesP k bs = .error 5 := by unfold bytesP; rw [if_pos h]
      exact this
    go_enter Tryz.func192, Tryz.ntmps192
    go_wp2
    exact ⟨rfl, RdOut.err .refl HE.out⟩
  · have hk : k ≤ bs.length := by omega
    clear h
    go_enter Tryz.func192, Tryz.ntmps192
    go_wp2
    · go_ret
      exact rbytes_close hR.out (by assumption) HB.out HNE.out hk (.inl ⟨by omega, rfl, rfl⟩)
    · go_ret
      exact rbytes_close hR.out hc HB.out HNE.out hk (.inr ⟨rfl, rfl⟩)
end Go.Proofs.YthagkijplklemaaGreatDoor
end

section
namespace Go.Sc
open Go.RowKit
/-- A reader that never stops: position and error ahead and behind. -/
structure Post {α : Type} (P : Rr α) (bs : List Int) (a : Nat) (e : Int) (x : α) (a' : Nat) (e' : Int) : Prop where
  stay : e ≠ 0 → e' = e
  ok : ∀ y r, e = 0 → P (bs.drop a) = .ok (y, r) → e' = 0 ∧ y = x ∧ r = bs.drop a'
  bad : ∀ c, e = 0 → P (bs.drop a) = .error c → e' = c ∧ c ≠ 0
section
variable {α β : Type} {bs : List Int} {a a1 a2 : Nat} {e e1 e2 : Int}
theorem Post.pure (x : α) : Post (Rr.pure x) bs a e x a e :=
  ⟨fun _ => rfl, fun y r h0 h => by cases h; exact ⟨h0, rfl, rfl⟩, fun c _ h => by cases h⟩
theorem Post.bind {P : Rr α} {Q : α → Rr β} {x : α} {y : β} (h : Post P bs a e x a1 e1) (k : Post (Q x) bs a1 e1 y a2 e2) : Post (P.bind Q) bs a e y a2 e2 := by
  refine ⟨fun he => ?_, fun z r h0 hz => ?_, fun c h0 hc => ?_⟩
  · have := h.stay he
    rw [k.stay (this ▸ he), this]
  · cases hp : P (bs.drop a) with
    | error c => rw [Rr.bind_err hp] at hz; cases hz
    | ok q =>
      obtain ⟨x', r1⟩ := q
      rw [Rr.bind_ok hp] at hz
      obtain ⟨g0, rfl, rfl⟩ := h.ok _ _ h0 hp
      exact k.ok _ _ g0 hz
  · cases hp : P (bs.drop a) with
    | error d =>
      rw [Rr.bind_err hp] at hc
      cases hc
      obtain ⟨rfl, hne⟩ := h.bad _ h0 hp
      exact ⟨k.stay hne, hne⟩
    | ok q =>
      obtain ⟨x', r1⟩ := q
      rw [Rr.bind_ok hp] at hc
      obtain ⟨g0, rfl, rfl⟩ := h.ok _ _ h0 hp
      exact k.bad _ g0 hc
theorem Post.eq {P Q : Rr α} {x : α} (h : Post P bs a e x a1 e1) (k : P = Q) : Post Q bs a e x a1 e1 := k ▸ h
/-- An error that is set; what follows does not matter. -/
theorem Post.fail {P : Rr β} {x : β} {c : Int} (hc : c ≠ 0) (h1 : e1 = if e = 0 then c else e) (h : Post P bs a e1 x a1 e2) : Post (Rr.fail c) bs a e x a1 e2 := by
  refine ⟨fun he => ?_, fun y r _ k => by (cases k), fun d h0 k => ?_⟩
  · rw [if_neg he] at h1
    subst h1
    exact h.stay he
  · cases k
    rw [if_pos h0] at h1
    subst h1
    exact ⟨h.stay hc, hc⟩
theorem repP_snoc {f : Rr α} : ∀ k, repP f (k + 1) = (repP f k).bind fun xs => f.bind fun x => Rr.pure (xs ++ [x])
  | 0 => by
    funext b
    simp only [repP, Rr.bind, Rr.pure, List.nil_append]
  | k + 1 => by
    have h2 := repP_snoc (f := f) k
    show (f.bind fun x => (repP f (k + 1)).bind fun xs => Rr.pure (x :: xs)) = (repP f (k + 1)).bind fun xs => f.bind fun x => Rr.pure (xs ++ [x])
    conv => lhs; rw [h2]
    rw [show repP f (k + 1) = f.bind fun x => (repP f k).bind fun xs => Rr.pure (x :: xs) from rfl]
    funext b
    simp only [Rr.bind, Rr.pure]
    cases f b with
    | error c => rfl
    | ok z =>
      obtain ⟨x, r⟩ := z
      simp only
      cases repP f k r with
      | error c => rfl
      | ok z =>
        obtain ⟨xs, r⟩ := z
        simp only
        cases f r with
        | error c => rfl
        | ok z => rfl
theorem repP_err {f : Rr α} {b : List Int} {c : Int} {k : Nat} (h : repP f k b = .error c) : ∀ n, k ≤ n → repP f n b = .error c
  | 0, hn => by obtain rfl : k = 0 := by omega
                exact h
  | n + 1, hn => by
    by_cases e : k = n + 1
    · rw [← e]; exact h
    · rw [repP_snoc, Rr.bind_err (repP_err h n (by omega))]
theorem Post.snoc {f : Rr α} {k : Nat} {xs : List α} {x : α} (h : Post (repP f k) bs a e xs a1 e1) (g : Post f bs a1 e1 x a2 e2) : Post (repP f (k + 1)) bs a e (xs ++ [x]) a2 e2 := by
  rw [repP_snoc]
  exact h.bind (g.bind (.pure _))
theorem Post.stop {f : Rr α} {k n : Nat} {xs : List α} (h : Post (repP f k) bs a e xs a1 e1) (he : ¬ e1 = 0) (hk : k ≤ n) : Post (repP f n) bs a e xs a1 e1 := by
  refine ⟨h.stay, fun y r h0 hy => ?_, fun c h0 hc => ?_⟩
  · cases hp : repP f k (bs.drop a) with
    | ok q => exact absurd (h.ok q.1 q.2 h0 hp).1 he
    | error d =>
      have := repP_err hp n hk
      rw [hy] at this
      cases this
  · cases hp : repP f k (bs.drop a) with
    | ok q => exact absurd (h.ok q.1 q.2 h0 hp).1 he
    | error d =>
      have := repP_err hp n hk
      rw [hc] at this
      cases this
      exact h.bad _ h0 hp
/-- The end of a list. -/
theorem Post.list {f : Rr α} {n : Int} {k : Nat} {xs : List α} (h : Post numP bs a e n a1 e1) (g : Post (repP f k) bs a1 e1 xs a2 e2) (hk : k ≤ n.toNat) (hs : k = n.toNat ∨ ¬ e2 = 0) : Post (listP f) bs a e xs a2 e2 := by
  refine h.bind ?_
  rcases hs with rfl | hs
  · exact g
  · exact g.stop hs hk
end
/-- The reader in block p: its bytes, its place, its error. -/
structure Rs (p : Nat) (w : World) (bs : List Int) (a : Nat) (e : Int) : Prop where
  lt : p < w.heap.size
  fz : ∀ i, w.frozen? ⟨p, i, none⟩ = false
  bytes : ∃ (A : Option Addr) (C : Nat), w.cell? ⟨p, 0, none⟩ = some (.slice A bs.length C) ∧ Bytes w ⟨A, C, bs⟩ ∧ ∀ b o q, A = some ⟨b, o, q⟩ → b < p
  at_ : w.cell? ⟨p, 1, none⟩ = some (.int .i64 a)
  err : w.cell? ⟨p, 2, none⟩ = some (.int .i64 e)
  le : a ≤ bs.length
  len : bs.length ≤ 2048
section
variable {p : Nat} {w w' : World} {bs : List Int} {a : Nat} {e : Int}
theorem Rs.lower (h : Rs p w bs a e) (hs : w.heap.size ≤ w'.heap.size) (hk : ∀ k, k ≤ p → w'.heap[k]? = w.heap[k]?) : Rs p w' bs a e := by
  obtain ⟨h1, h2, ⟨A, C, h3, h4, h5⟩, h6, h7, h8, h9⟩ := h
  have hp := hk p (Nat.le_refl _)
  exact ⟨Nat.lt_of_lt_of_le h1 hs, fun i => (World.frozen?_of_block (w := w) (a := ⟨p, i, none⟩) hp).trans (h2 i),
    ⟨A, C, (World.cell?_of_block (w := w) (a := ⟨p, 0, none⟩) hp).trans h3, bytes_same h4 hs fun b o ha => hk b (by have := h5 b o none ha; omega), h5⟩,
    (World.cell?_of_block (w := w) (a := ⟨p, 1, none⟩) hp).trans h6, (World.cell?_of_block (w := w) (a := ⟨p, 2, none⟩) hp).trans h7, h8, h9⟩
theorem Rs.below (h : Rs p w bs a e) (hb : Below w.heap.size w w') : Rs p w' bs a e := h.lower hb.size fun k hk => hb.block k (by have := h.lt; omega)
theorem Rs.alloc (h : Rs p w bs a e) (o : Obj) : Rs p (w.alloc o) bs a e := h.below ((Below.refl _ _).alloc (Nat.le_refl _) o)
theorem Rs.ext (x : Ext w) (h : Rs p w bs a e) : Rs p x.val bs a e := h.below x.below
theorem Rs.drew (h : Rs p w bs a e) : Rs p w.drew bs a e := h.below (Below.refl _ _).drew
theorem Rs.setCell (h : Rs p w bs a e) {b o : Nat} (hb : p < b) (v : Value) : Rs p (w.setCell ⟨b, o, none⟩ v) bs a e :=
  h.lower (by rw [size_setCell]; exact Nat.le_refl _) fun k hk => Below.heap_setCell _ _ _ _ (by simp only; omega)
theorem Rs.set1 (h : Rs p w bs a e) {a' : Nat} (hl : a' ≤ bs.length) : Rs p (w.setCell ⟨p, 1, none⟩ (.int .i64 a')) bs a' e := by
  obtain ⟨h1, h2, ⟨A, C, h3, h4, h5⟩, h6, h7, h8, h9⟩ := h
  refine ⟨by rw [size_setCell]; exact h1, fun i => by simpa using h2 i, ⟨A, C, ?_, bytes_same h4 (by rw [size_setCell]; exact Nat.le_refl _) fun b o ha => Below.heap_setCell _ _ _ _ (by have := h5 b o none ha; simp only; omega), h5⟩, ?_, ?_, hl, h9⟩
  · rw [World.cell?_setCell_other]
    · exact h3
    · simp
  · exact World.cell?_setCell_same' _ _ _ (by rw [h6]; rfl)
  · rw [World.cell?_setCell_other]
    · exact h7
    · simp
theorem Rs.set2 (h : Rs p w bs a e) {e' : Int} : Rs p (w.setCell ⟨p, 2, none⟩ (.int .i64 e')) bs a e' := by
  obtain ⟨h1, h2, ⟨A, C, h3, h4, h5⟩, h6, h7, h8, h9⟩ := h
  refine ⟨by rw [size_setCell]; exact h1, fun i => by simpa using h2 i, ⟨A, C, ?_, bytes_same h4 (by rw [size_setCell]; exact Nat.le_refl _) fun b o ha => Below.heap_setCell _ _ _ _ (by have := h5 b o none ha; simp only; omega), h5⟩, ?_, ?_, h8, h9⟩
  · rw [World.cell?_setCell_other]
    · exact h3
    · simp
  · rw [World.cell?_setCell_other]
    · exact h6
    · simp
  · exact World.cell?_setCell_same' _ _ _ (by rw [h7]; rfl)
end
/-- What a function of the reader does. -/
def OutR {α : Type} (p : Nat) (w : World) (bs : List Int) (a : Nat) (e : Int) (P : Rr α) (rep : Rp α) (en : Ending) (w' : World) : Prop :=
  Fp p w w' ∧ ∃ (v : Value) (x : α) (a' : Nat) (e' : Int), en = .returned v ∧ rep w.heap.size w' v x ∧ Rs p w' bs a' e' ∧ Post P bs a e x a' e'
theorem OutR.ret {α : Type} {p : Nat} {w w' : World} {bs : List Int} {a a' : Nat} {e e' : Int} {P : Rr α} {rep : Rp α} {v : Value} {x : α} (hf : Fp p w w') (hx : rep w.heap.size w' v x) (hR : Rs p w' bs a' e') (hP : Post P bs a e x a' e') : OutR p w bs a e P rep (.returned v) w' :=
  ⟨hf, v, x, a', e', rfl, hx, hR, hP⟩
def Reads {α : Type} (G : Program) (f : FuncId) (args : Array Value) (p : Nat) (w : World) (bs : List Int) (a : Nat) (e : Int) (P : Rr α) (rep : Rp α) : Prop := Calls G f args w (OutR p w bs a e P rep)
theorem Reads.go {α : Type} {G : Program} {f : FuncId} {args : Array Value} {p : Nat} {w : World} {bs : List Int} {a : Nat} {e : Int} {P : Rr α} {rep : Rp α} (h : Reads G f args p w bs a e P rep) {R : Ending → World → Prop}
    (k : ∀ (x : α) (a' : Nat) (e' : Int) (v : Value) (y : Px p w), Hid (rep w.heap.size y.val v x) → Hid (Rs p y.val bs a' e') → Hid (Post P bs a e x a' e') → R (.returned v) y.val) : Calls G f args w R :=
  h.mono fun en w' ⟨hf, v, x, a', e', he, hx, hR, hP⟩ => by rw [he]; exact k x a' e' v ⟨w', hf⟩ hx hR hP
/-- A list that grows in memory that is new from block 'base' on. -/
structure LK {α : Type} (E : El α) (m : Nat) (t : TypeId) (base : Nat) (o : Value) (wr : World) (acc : List α) (F : Nat → Prop) : Prop where
  own : wr.ownsRow base t m o acc.length (acc.flatMap E.cells)
  fresh : ∀ b, F b → base ≤ b ∧ b < wr.heap.size ∧ o.ownBlock ≠ some b
  ok : ∀ w' : World, wr.heap.size ≤ w'.heap.size → (∀ b, F b → w'.heap[b]? = wr.heap[b]?) → ∀ x ∈ acc, E.ok w' x
section
variable {α : Type} {E : El α} {er : α → α} {m base : Nat} {t T : TypeId} {p : Nat} {w wr : World} {o : Value} {acc : List α} {F : Nat → Prop}
theorem LK.start : LK E m t base (.slice none 0 0) wr [] (fun _ => False) := ⟨by simpa using own_nil _ _ _ _, fun _ h => h.elim, (fun _ _ _ x hx => by cases hx)⟩
theorem LK.keep {w' : World} (h : LK E m t base o wr acc F) (k : Kept base wr w') : LK E m t base o w' acc F :=
  ⟨own_same h.own fun b hb => k.blk b (h.own.lt b hb).1 (h.own.lt b hb).2, fun b hb => ⟨(h.fresh b hb).1, Nat.lt_of_lt_of_le (h.fresh b hb).2.1 k.size, (h.fresh b hb).2.2⟩,
    fun w'' hs hw => h.ok w'' (Nat.le_trans k.size hs) fun b hb => (hw b hb).trans (k.blk b (h.fresh b hb).1 (h.fresh b hb).2.1)⟩
/-- One element more; wr is the world in which the list was, y the one behind the call. -/
theorem LK.step {y : World} (h : LK E m t base o wr acc F) (k : Kept base wr y) {c : α} {F' : Nat → Prop} (hF : ∀ b, F' b → wr.heap.size ≤ b ∧ b < y.heap.size) (hb : base ≤ wr.heap.size)
    (hok : ∀ w' : World, y.heap.size ≤ w'.heap.size → (∀ b, F' b → w'.heap[b]? = y.heap[b]?) → E.ok w' c)
    {us : Array Value} {v' : Value} {w1 : World} (ho : w1.ownsRow base t m v' (acc ++ [c]).length ((acc ++ [c]).flatMap E.cells)) (hg : (y.alloc (.cells us T)).grownBy w1 o.ownBlock) (hat : v'.ownBlock = o.ownBlock ∨ v'.ownBlock = some (y.heap.size + 1)) :
    LK E m t base v' w1 (acc ++ [c]) (fun b => F b ∨ F' b) := by
  have hsz := hg.size
  simp only [World.size_alloc] at hsz
  have hys := k.size
  have hold : ∀ b, b < y.heap.size → o.ownBlock ≠ some b → w1.heap[b]? = y.heap[b]? := fun b hb hne => (hg.block b (by simp; omega) (Ne.symm hne)).trans (Below.heap_alloc _ _ b hb)
  have hown : ∀ k, o.ownBlock = some k → base ≤ k ∧ k < wr.heap.size := h.own.lt
  refine ⟨ho, ?_, ?_⟩
  · intro b hb
    rcases hb with hb | hb
    · obtain ⟨q1, q2, q3⟩ := h.fresh b hb
      refine ⟨q1, by omega, ?_⟩
      rcases hat with e | e
      · rw [e]; exact q3
      · rw [e]; simp only [ne_eq, Option.some.injEq]; omega
    · obtain ⟨q1, q2⟩ := hF b hb
      refine ⟨by omega, by omega, ?_⟩
      rcases hat with e | e
      · rw [e]; intro e2; have := (hown b e2).2; omega
      · rw [e]; simp only [ne_eq, Option.some.injEq]; omega
  · intro w' hs' hsame x hx
    rcases List.mem_append.1 hx with hx | hx
    · refine h.ok w' (by omega) (fun b hb => ?_) x hx
      obtain ⟨q1, q2, q3⟩ := h.fresh b hb
      exact ((hsame b (.inl hb)).trans (hold b (by omega) q3)).trans (k.blk b q1 q2)
    · simp only [List.mem_singleton] at hx
      subst hx
      refine hok w' (by omega) (fun b hb => ?_)
      obtain ⟨q1, q2⟩ := hF b hb
      exact (hsame b (.inr hb)).trans (hold b q2 (fun e => by have := (hown b e).2; omega))
theorem LK.done (h : LK E m t base o wr acc F) (hm : ∀ x ∈ acc, (E.cells x).length = m) : RepL E m er base wr o (acc.map er) := by
  obtain ⟨a, c, ho, h1, _⟩ := sl_of_own h.own hm (h.ok wr (Nat.le_refl _) fun _ _ => rfl)
  refine ⟨⟨a, c, acc⟩, fun b => F b ∨ o.ownBlock = some b, ho, rfl, fun b hb => ?_, fun w' hs hsame => ?_⟩
  · rcases hb with hb | hb
    · exact ⟨(h.fresh b hb).1, (h.fresh b hb).2.1⟩
    · exact h.own.lt b hb
  · obtain ⟨a', c', ho', h2, _⟩ := sl_of_own (own_same h.own fun b hb => hsame b (.inr hb)) hm (h.ok w' hs fun b hb => hsame b (.inl hb))
    rw [ho] at ho'
    cases ho'
    exact h2
/-- What an append to the list leaves alone. -/
theorem LK.fp (h : LK E m t base o wr acc F) (hb : w.heap.size ≤ base) {y : World} (hf : Fp p w y) {us : Array Value} {w1 : World} (hg : (y.alloc (.cells us T)).grownBy w1 o.ownBlock) : Fp p w w1 := by
  have h1 : Fp p w (y.alloc (.cells us T)) := hf.alloc _
  exact ⟨hg.os.trans h1.os, hg.tape.trans h1.tape, hg.output.trans h1.output, Nat.le_trans h1.size hg.size, fun k hk hne => (hg.block k (Nat.lt_of_lt_of_le hk h1.size) (fun e => by have := (h.own.lt k e.symm).1; omega)).trans (h1.block k hk hne)⟩
theorem LK.low (h : LK E m t base o wr acc F) {y : World} {us : Array Value} {w1 : World} (hg : (y.alloc (.cells us T)).grownBy w1 o.ownBlock) {D : Nat} (hD : D < base) (hy : D < y.heap.size) : w1.heap[D]? = y.heap[D]? :=
  (hg.block D (by simp; omega) (fun e => by have := (h.own.lt D e.symm).1; omega)).trans (Below.heap_alloc _ _ D hy)
theorem LK.rs (h : LK E m t base o wr acc F) (hp : p < base) {y : World} {bs : List Int} {a : Nat} {e : Int} (hR : Rs p y bs a e) {us : Array Value} {w1 : World} (hg : (y.alloc (.cells us T)).grownBy w1 o.ownBlock) : Rs p w1 bs a e := by
  have hsz := hg.size
  simp only [World.size_alloc] at hsz
  have hl := hR.lt
  exact hR.lower (by omega) fun k hk => h.low hg (by omega) (by omega)
end
end Go.Sc
end
