/- Strings of bytes: zeros appended; pad. Strings of bytes: split into blocks of eight. The hash value of bytes. -/
import Derived.Test.YthagkijplklemaaGreatDoorS22
import Derived.Lib.AppendZerosOnto
import Derived.Test.YthagkijplklemaaGreatDoorS20
import Derived.Deep.RegionHeld3
section
namespace Go.Sc
open Go.RowKit
theorem zeroCells_one (u : Value) (hu : u.cells = #[u]) (k : Nat) : Builtin.zeroCells u.cells k = (List.replicate k u).toArray := by
  rw [hu]
  apply Array.ext
  · simp [Builtin.zeroCells]
  · intro i h1 h2
    simp [Builtin.zeroCells, Nat.mod_one]
section
variable {P : Program}
/-- Zeros appended to a row of the call's own: 'append(s, make([]T, k)...)'. -/
theorem run_append_own_zeros (w : World) (base : Nat) (t tn ty e : TypeId) (i : TypeInfo) (u : Value) (kn : IntKind) (ht : P.underlying t = some (.slice e)) (htn : P.underlying tn = some (.int kn)) (hi : P.info? e = some i) (hz : i.zero = some u)
    (hsize : i.size = 1) (hby : i.bytes = 1) (hu : u.cells = #[u]) (hone : u.oneCell' = true)
    (v : Value) (n : Nat) (xs : List Value) (hown : w.ownsRow base e 1 v n xs) (k : Nat) (h0 : 0 < k) (hn0 : 0 < n) (h63 : n + k ≤ 1099511627776) (hbase : base ≤ w.heap.size) :
    ∃ v' w', (Builtin.append_ #[t, tn] ty #[v, .int .i64 k]).run P w = .ok v' w' ∧ w'.ownsRow base e 1 v' (n + k) (xs ++ List.replicate k u) ∧ w.grownBy w' v.ownBlock ∧ (v'.ownBlock = v.ownBlock ∨ v'.ownBlock = some w.heap.size) := by
  have hlen : (xs ++ List.replicate k u).length = (n + k) * 1 := by rw [List.length_append, hown.1, List.length_replicate]; omega
  rcases hown.2 with ⟨rfl, rfl⟩ | ⟨g, cap, cur, rfl, hbg, hg, hnc, hcm, hcs, htake⟩
  · omega
  · have hk : k ≠ 0 := by omega
    have hw : IntKind.i64.wrap (k : Int) = k := by rw [IntKind.wrap_i64]; omega
    have hneg : ¬ ((k : Int) < 0) := by omega
    have h48i : ¬ (281474976710656 < (k : Int)) := by omega
    by_cases hroom : n + k ≤ cap
    · have hst := run_storeCells_at P g n e (List.replicate k u) 0 cur w hg (by rw [List.length_replicate, hcs]; omega) (fun v hv => by rw [List.eq_of_mem_replicate hv]; exact hone)
      simp only [Nat.add_zero] at hst
      refine ⟨.slice (some ⟨g, 0, none⟩) (n + k) cap, w.setRow g (cur.toList.take n ++ List.replicate k u ++ cur.toList.drop (n + (List.replicate k u).length)).toArray, ?_, ⟨hlen, .inr ⟨g, cap, _, rfl, hbg, setRow_heap w g cur _ e _ hg, hroom, hcm, ?_, ?_⟩⟩, ⟨rfl, rfl, rfl, by simp, fun j _ hj => setRow_other w g j _ (fun e => hj (by simp [Value.ownBlock, e]))⟩, Or.inl rfl⟩
      · simp [Builtin.append_, run_underlying ht, run_underlying htn, sizeOf, typeInfo, zeroValue, hi, hz, hsize, hby, asInt, asIntOf, hw, hneg, hk, h48i, hroom, Addr.add_lit, zeroCells_one u hu, hst]
      · simp only [List.size_toArray, List.length_append, List.length_take, List.length_drop, Array.length_toList, List.length_replicate]
        omega
      · rw [Nat.mul_one] at htake
        rw [htake]
        rw [← hlen]
        exact List.take_left
    · have holds : ∀ j u, xs[j]? = some u → w.cell? ((⟨g, 0, none⟩ : Addr).add j) = some u := hown.cells (g := g) rfl
      have hold := run_firstCells_some (P := P) w.drew i.size n ⟨g, 0, none⟩ n cap xs (by rw [hown.1, hsize]) (by simpa using holds)
      have hge := grownCap_ge w (n + k) cap e
      have hcm' : grownCap w (n + k) cap e ≤ maxLen := grownCap_le_maxLen w (n + k) cap e (by unfold maxLen; omega)
      have hr := Lib.run_append_grow_zeros (P := P) w t tn ty e i u .i64 kn ht htn hi hz (some ⟨g, 0, none⟩) n cap xs hold k h0 (by omega) (by omega) (by omega) (by rw [hby]; omega) (growslice_fits (by omega) (by rw [hby]; omega))
      refine ⟨_, _, hr, ⟨hlen, .inr ⟨w.heap.size, _, _, rfl, hbase, heap_alloc_new w.drew _, hge, hcm', ?_, ?_⟩⟩, ⟨rfl, rfl, rfl, by simp, fun j hj _ => Below.heap_alloc w.drew _ j hj⟩, Or.inr rfl⟩
      · simp only [zeroCells_one u hu, Array.size_append, List.size_toArray, List.length_replicate, hown.1]
        omega
      · simp only [zeroCells_one u hu, Array.toList_append]
        rw [← hlen]
        exact List.take_left
theorem wpList_appZ (w : World) {ops : Array Oper} {rest : List Oper} {o : Oper} {a : Act} {Q : Exit → Act → World → Prop} (hgd : o.guard = none) (s x : Operand) (t tn : TypeId)
    (ho : o.op = .call { callee := .builtin .append, args := #[s, x], argTypes := #[t, tn] }) (base : Nat) (e : TypeId) (u : Value) (kn : IntKind) (ht : P.underlying t = some (.slice e)) (htn : P.underlying tn = some (.int kn))
    (hi : (P.info? e).map (fun i => (i.zero, i.size, i.bytes)) = some (some u, 1, 1)) (hu : u.cells = #[u]) (hone : u.oneCell' = true)
    (v : Value) (n : Nat) (xs : List Value) (hs : a.eval s = v) (hown : Hid (w.ownsRow base e 1 v n xs)) (k : Nat) (z : Int) (hx : a.eval x = .int .i64 z) (hz : z = k) (h0 : 0 < k) (hn0 : 0 < n) (h63 : n + k ≤ 1099511627776) (hbase : base ≤ w.heap.size)
    (h : ∀ (v' : Value) (w' : World), Hid (w'.ownsRow base e 1 v' (n + k) (xs ++ List.replicate k u)) → Hid (w.grownBy w' v.ownBlock) → Hid (v'.ownBlock = v.ownBlock ∨ v'.ownBlock = some w.heap.size) → wpList P ops Q rest (a.put o.dst v') w') : wpList P ops Q (o :: rest) a w := by
  obtain ⟨i, hi', hz0, hz1, hz2⟩ := info_parts hi
  obtain ⟨v', w', hr, h2, h3, h5⟩ := run_append_own_zeros (P := P) w base t tn o.type e i u kn ht htn hi' hz0 hz1 hz2 hu hone v n xs hown.out k h0 hn0 h63 hbase
  subst hz
  exact Lib.wpList_append_run w hgd s x t tn ho v _ hs hx v' w' hr (h v' w' h2 h3 h5)
end
end Go.Sc
namespace Go.Sc
/-- The padding. -/
def padZ (n : Nat) : Nat := if n % 8 = 0 then 0 else 8 - n % 8
def padL (b : List Int) : List Int := b ++ [128] ++ List.replicate (padZ (b.length + 1)) 0
theorem padL_len (b : List Int) : (padL b).length % 8 = 0 ∧ (padL b).length ≤ b.length + 9 := by
  unfold padL padZ
  simp only [List.length_append, List.length_singleton, List.length_replicate]
  split <;> omega
theorem padL_byt {b : List Int} (h : ∀ x ∈ b, byt x) : ∀ x ∈ padL b, byt x := by
  intro x hx
  unfold padL at hx
  rcases List.mem_append.1 hx with hx | hx
  · rcases List.mem_append.1 hx with hx | hx
    · exact h x hx
    · simp at hx; subst hx; exact ⟨by omega, by omega⟩
  · rw [List.eq_of_mem_replicate hx]; exact ⟨by omega, by omega⟩
end Go.Sc
namespace Go.Proofs.YthagkijplklemaaGreatDoor
open Go.ChangeShapes Go.WideShapes Go.ChangeAt Go.RowKit Go.Sc
/-- Two slices of bytes side by side. -/
theorem sl_two (w : World) (s t : Sl Int) (T : TypeId) (b : Nat) (hb : b = w.heap.size) (hs : Bytes w s) (ht : Bytes w t) : (⟨some ⟨b, 0, none⟩, 2, [s, t]⟩ : Sl (Sl Int)).Ok eSl 1 (w.alloc (.cells #[s.v, t.v] T)) := by
  subst hb
  have hbel : Below w.heap.size w (w.alloc (.cells #[s.v, t.v] T)) := (Below.refl _ _).alloc (Nat.le_refl _) _
  refine ⟨by simp, by simp, (fun h => by cases h), fun k x hx => ?_⟩
  match k, hx with
  | 0, hx =>
    simp at hx; subst hx
    refine ⟨hs.mono hbel, _, _, rfl, by simp, fun j v hv => ?_⟩
    match j, hv with
    | 0, hv => rw [World.cell?_alloc_new]; simpa [eSl] using hv
  | 1, hx =>
    simp at hx; subst hx
    refine ⟨ht.mono hbel, _, _, rfl, by simp, fun j v hv => ?_⟩
    match j, hv with
    | 0, hv => rw [World.cell?_alloc_new]; simpa [eSl] using hv
set_option maxRecDepth 20000 in
set_option maxHeartbeats 1000000 in
theorem pad_any (s : Sl Int) (w : World) (hs : Hid (Bytes w s)) (hl : s.xs.length ≤ 1000000) : GivesB Tryz.prog 149 #[s.v, .int .i64 8] w (fun v => .tuple #[v, .int .i64 0]) (padL s.xs) := by
  obtain ⟨a, c, xs⟩ := s
  have hle := hs.out.le
  have hmx := hs.out.max
  simp only at hle hmx hl
  show GivesB _ _ #[.slice a xs.length c, _] _ _ _
  unfold GivesB
  have hby : Hid (∀ x ∈ padL xs, byt x) := hid (padL_byt hs.out.range)
  have hJ : Hid (∀ W : World, Below w.heap.size w W → Calls Tryz.prog 89 #[.slice (some ⟨W.heap.size + 1, 0, none⟩) 2 2] ((W.alloc (.cells #[.int .u8 128] 5)).alloc (.cells #[.slice a xs.length c, .slice (some ⟨W.heap.size, 0, none⟩) 1 1] 22)) fun e w' =>
      ∃ (A : Option Addr) (C : Nat) (x : Ext W), e = .returned (.slice A (xs.length + 1) C) ∧ w' = x.val ∧ Hid (x.val.ownsRow w.heap.size 5 1 (.slice A (xs.length + 1) C) (xs.length + 1) ((xs ++ [128]).flatMap eByte.cells))) := fun W hW => by
    have h1 : Bytes (W.alloc (.cells #[.int .u8 128] 5)) ⟨a, c, xs⟩ := (hs.out.mono hW).mono END
    have h2 : Bytes (W.alloc (.cells #[.int .u8 128] 5)) ⟨some ⟨W.heap.size, 0, none⟩, 1, [128]⟩ := bytes_new W [128] 5 _ rfl (fun x hx => by simp at hx; subst hx; exact ⟨by omega, by omega⟩) (by simp)
    have h3 := sl_two (W.alloc (.cells #[.int .u8 128] 5)) ⟨a, c, xs⟩ ⟨some ⟨W.heap.size, 0, none⟩, 1, [128]⟩ 22 (W.heap.size + 1) (by simp) h1 h2
    refine (join_own ⟨some ⟨W.heap.size + 1, 0, none⟩, 2, [⟨a, c, xs⟩, ⟨some ⟨W.heap.size, 0, none⟩, 1, [128]⟩]⟩ _ h3 (by simp [catL]; omega)).mono ?_
    rintro e w' ⟨v, rfl, ho, hb⟩
    have hW2 : Below W.heap.size W ((W.alloc (.cells #[.int .u8 128] 5)).alloc (.cells #[.slice a xs.length c, .slice (some ⟨W.heap.size, 0, none⟩) 1 1] 22)) := END
    have hc : catL [(⟨a, c, xs⟩ : Sl Int), ⟨some ⟨W.heap.size, 0, none⟩, 1, [128]⟩] = xs ++ [128] := by simp [catL]
    simp only [hc] at ho
    have ho' : w'.ownsRow w.heap.size 5 1 v (xs.length + 1) ((xs ++ [128]).flatMap eByte.cells) := by
      refine ⟨by simpa using ho.1, ?_⟩
      rcases ho.2 with ⟨rfl, h⟩ | ⟨g, cap, cur, rfl, hg, rest⟩
      · simp at h
      · exact .inr ⟨g, cap, cur, by simp, by have := hW.size; simp only [World.size_alloc] at hg; omega, by simpa using rest⟩
    obtain ⟨A, C, rfl, _⟩ := own_form ho'
    exact ⟨A, C, ⟨w', hW2.trans (hb.mono hW2.size)⟩, rfl, rfl, ho'⟩
  obtain ⟨n, hn⟩ : ∃ n, n = xs.length + 1 := ⟨_, rfl⟩
  rw [← hn] at hJ
  have hn1 : (n : Int) ≤ 1000001 := by omega
  have hn2 : (0 : Int) ≤ (n : Int) := by omega
  have HN := hid hn
  clear hn
  by_cases hz : n % 8 = 0
  · have hz' : (((n : Int) % 8) != 0) = false := by simp; omega
    have HZ := hid hz
    clear hz
    go_enter Tryz.func149, Tryz.ntmps149
    go_wp2_with (go_at_call 89; refine (hJ.out _ END).mono ?_; rintro e w' ⟨A, C, x, rfl, rfl, ho⟩)
    have hp : padL xs = xs ++ [128] := by
      unfold padL padZ
      rw [if_pos (by have := HN.out; have := HZ.out; omega)]
      simp
    have hl : n = (padL xs).length := by rw [hp, HN.out]; simp
    rw [← hp] at ho
    obtain ⟨A', C', he, h1, h2⟩ := sl_of_own (E := eByte) (own_len ho.out hl) (fun x _ => rfl) hby.out
    cases he
    go_returns
    exact ⟨A, C, rfl, h1, x.below, fun b o q h => (h2 b o q h).1⟩
  · have hz' : (((n : Int) % 8) != 0) = true := by simp; omega
    have HZ := hid hz
    have hz1 : (0 : Int) < (n : Int) % 8 := by omega
    have hz2 : (n : Int) % 8 < 8 := by omega
    have hn8 : 0 < n := by omega
    have hk8 : (8 : Int) - (n : Int) % 8 = ((8 - n % 8 : Nat) : Int) := by omega
    have hk9 : 0 < 8 - n % 8 := by omega
    have HK := hid hk8
    clear hz hk8
    go_enter Tryz.func149, Tryz.ntmps149
    go_wp2_with (first | (go_at_call 89; refine (hJ.out _ END).mono ?_; rintro e w' ⟨A, C, x, rfl, rfl, ho⟩) | (at_builtin; refine wpList_appZ _ rfl _ _ 22 3 rfl w.heap.size 5 (.int .u8 0) .i64 Tryz.underlying22 Tryz.underlying3 infU8 rfl rfl (.slice A n C) n ((xs ++ [128]).flatMap eByte.cells) rfl ho (8 - n % 8) (8 - (n : Int) % 8) rfl HK.out hk9 hn8 (by omega) x.size ?_; intro v1 w1 ho1 hg1 hat1) | fail)
    have hp : (padL xs).flatMap eByte.cells = (xs ++ [128]).flatMap eByte.cells ++ List.replicate (8 - n % 8) (.int .u8 0) := by
      unfold padL padZ
      rw [← HN.out, if_neg HZ.out, List.flatMap_append]
      congr 1
      induction (8 - n % 8) with
      | zero => rfl
      | succ k ih => rw [List.replicate_succ, List.flatMap_cons, ih, List.replicate_succ]; rfl
    have hl : n + (8 - n % 8) = (padL xs).length := by
      unfold padL padZ
      rw [← HN.out, if_neg HZ.out]
      simp only [List.length_append, List.length_singleton, List.length_replicate]
      have := HN.out
      omega
    have ho2 := own_len ho1.out hl
    rw [← hp] at ho2
    obtain ⟨A', C', rfl, h1, h2⟩ := sl_of_own (E := eByte) ho2 (fun x _ => rfl) hby.out
    go_returns
    exact ⟨A', C', rfl, h1, below_own x.below x.size ho.out hg1.out, fun b o q h => (h2 b o q h).1⟩
theorem mpad_any (s : Sl Int) (w : World) (hs : Hid (Bytes w s)) (hl : s.xs.length ≤ 1000000) : GivesB Tryz.prog 90 #[s.v] w (fun v => v) (padL s.xs) := by
  have hC := hid (pad_any s w hs hl)
  obtain ⟨a, c, xs⟩ := s
  simp only at hC ⊢
  generalize padL xs = zs at *
  unfold GivesB
  go_enter Tryz.func90, Tryz.ntmps90
  go_wp2_with (go_at_call 149; refine hC.out.go.mono ?_; rintro e w' ⟨A, C, x, rfl, rfl, hb, hf⟩)
  go_ret
  exact ⟨A, C, rfl, hb.out, x.below, hf.out⟩
end Go.Proofs.YthagkijplklemaaGreatDoor
end

section
namespace Go.Sc
open Go.RowKit Go.Proofs.YthagkijplklemaaGreatDoor
/-- A list that a call makes, and what its elements lead to. -/
structure LI {α : Type} (E : El α) (m : Nat) (e : TypeId) (w : World) (o : Value) (wr : World) (acc : List α) (F : Nat → Prop) : Prop where
  below : Below w.heap.size w wr
  own : wr.ownsRow w.heap.size e m o acc.length (acc.flatMap E.cells)
  fresh : ∀ b, F b → w.heap.size ≤ b ∧ b < wr.heap.size ∧ o.ownBlock ≠ some b
  ok : ∀ w' : World, wr.heap.size ≤ w'.heap.size → (∀ b, F b → w'.heap[b]? = wr.heap[b]?) → ∀ x ∈ acc, E.ok w' x
theorem LI.start {α : Type} {E : El α} {m : Nat} {e : TypeId} {w wr : World} (hb : Below w.heap.size w wr) : LI E m e w (.slice none 0 0) wr [] (fun _ => False) :=
  ⟨hb, by simpa using own_nil _ _ _ _, fun _ h => h.elim, (fun _ _ _ x hx => by cases hx)⟩
theorem LI.step {α : Type} {E : El α} {m : Nat} {e T : TypeId} {w wr : World} {o : Value} {acc : List α} {F : Nat → Prop} (h : LI E m e w o wr acc F)
    (y : Ext wr) {c : α} {F' : Nat → Prop} (hF : ∀ b, F' b → wr.heap.size ≤ b ∧ b < y.val.heap.size) (hok : ∀ w' : World, y.val.heap.size ≤ w'.heap.size → (∀ b, F' b → w'.heap[b]? = y.val.heap[b]?) → E.ok w' c)
    {us : Array Value} {v' : Value} {w1 : World} (ho : w1.ownsRow w.heap.size e m v' (acc ++ [c]).length ((acc ++ [c]).flatMap E.cells)) (hg : (y.val.alloc (.cells us T)).grownBy w1 o.ownBlock) (hat : v'.ownBlock = o.ownBlock ∨ v'.ownBlock = some (y.val.heap.size + 1)) :
    LI E m e w v' w1 (acc ++ [c]) (fun b => F b ∨ F' b) := by
  have hsz := hg.size
  simp only [World.size_alloc] at hsz
  have hys := y.size
  have hws := h.below.size
  have hold : ∀ b, b < y.val.heap.size → o.ownBlock ≠ some b → w1.heap[b]? = y.val.heap[b]? := fun b hb hne => (hg.block b (by simp; omega) (Ne.symm hne)).trans (Below.heap_alloc _ _ b hb)
  have hown : ∀ k, o.ownBlock = some k → w.heap.size ≤ k ∧ k < wr.heap.size := h.own.lt
  refine ⟨?_, ho, ?_, ?_⟩
  · have h1 : Below w.heap.size w (y.val.alloc (.cells us T)) := (h.below.trans (y.below.mono hws)).alloc (by omega) _
    exact ⟨hg.os.trans h1.os, hg.tape.trans h1.tape, hg.output.trans h1.output, Nat.le_trans h1.size hg.size, fun k hk => (hg.block k (Nat.lt_of_lt_of_le hk h1.size) (fun e => by have := (hown k e.symm).1; omega)).trans (h1.block k hk)⟩
  · intro b hb
    rcases hb with hb | hb
    · obtain ⟨q1, q2, q3⟩ := h.fresh b hb
      refine ⟨q1, by omega, ?_⟩
      rcases hat with e | e
      · rw [e]; exact q3
      · rw [e]; simp only [ne_eq, Option.some.injEq]; omega
    · obtain ⟨q1, q2⟩ := hF b hb
      refine ⟨by omega, by omega, ?_⟩
      rcases hat with e | e
      · rw [e]; intro e2; have := (hown b e2).2; omega
      · rw [e]; simp only [ne_eq, Option.some.injEq]; omega
  · intro w' hs' hsame x hx
    rcases List.mem_append.1 hx with hx | hx
    · refine h.ok w' (by omega) (fun b hb => ?_) x hx
      obtain ⟨q1, q2, q3⟩ := h.fresh b hb
      exact ((hsame b (.inl hb)).trans (hold b (by omega) q3)).trans (y.below.block b q2)
    · simp only [List.mem_singleton] at hx
      subst hx
      refine hok w' (by omega) (fun b hb => ?_)
      obtain ⟨q1, q2⟩ := hF b hb
      exact (hsame b (.inr hb)).trans (hold b q2 (fun e => by have := (hown b e).2; omega))
/-- The blocks that a slice of bytes lies in. -/
def inB (s : Sl Int) (b : Nat) : Prop := ∃ o, s.a = some ⟨b, o, none⟩
theorem inB_ok {w : World} {s : Sl Int} (h : Bytes w s) : ∀ w' : World, w.heap.size ≤ w'.heap.size → (∀ b, inB s b → w'.heap[b]? = w.heap[b]?) → Bytes w' s :=
  fun _ hs hk => bytes_same h hs fun b o e => hk b ⟨o, e⟩
theorem inB_new {w w' : World} {s : Sl Int} (h : Bytes w' s) (hne : s.xs ≠ []) (hf : ∀ b o q, s.a = some ⟨b, o, q⟩ → w.heap.size ≤ b) : ∀ b, inB s b → w.heap.size ≤ b ∧ b < w'.heap.size := by
  rintro b ⟨o, e⟩
  refine ⟨hf b o none e, ?_⟩
  obtain ⟨x, hx⟩ := getElem?_of_lt (List.length_pos_iff.2 hne)
  obtain ⟨_, b', off, h2, h3, _⟩ := h.at_ 0 x hx
  rw [e] at h2
  cases h2
  exact h3
theorem bytes_drop8 {w : World} {A : Option Addr} {C : Nat} {rs : List Int} (h : Bytes w ⟨A, C, rs⟩) (h8 : 8 ≤ rs.length) :
    Bytes w ⟨if C = 8 then A else Option.map (fun x => { block := x.block, off := x.off + 8 }) A, C - 8, rs.drop 8⟩ := by
  have hle := h.le
  have hmx := h.max
  simp only at hle hmx
  by_cases e : C = 8
  · have : rs.drop 8 = [] := List.drop_eq_nil_of_le (by omega)
    rw [this]
    exact ⟨by simp, by simp only; omega, fun _ => by simp only; omega, fun k x hx => by simp at hx⟩
  · rw [if_neg e]
    have := bytes_drop (k := 8) h h8
    have e2 : A.map (fun x => x.add 8) = Option.map (fun x => { block := x.block, off := x.off + 8 }) A := by
      cases A with
      | none => rfl
      | some a => simp [Addr.add]
    rwa [e2] at this
def chunks8 : Nat → List Int → List (List Int)
  | 0, _ => []
  | k + 1, b => b.take 8 :: chunks8 k (b.drop 8)
theorem chunks8_snoc : ∀ (k : Nat) (b : List Int), chunks8 (k + 1) b = chunks8 k b ++ [(b.drop (8 * k)).take 8]
  | 0, b => by simp [chunks8]
  | k + 1, b => by
    have e : (b.drop 8).drop (8 * k) = b.drop (8 * (k + 1)) := by rw [List.drop_drop]; congr 1; omega
    rw [chunks8, chunks8_snoc k (b.drop 8), chunks8, e, List.cons_append]
theorem chunks8_len : ∀ (k : Nat) (b : List Int), (chunks8 k b).length = k
  | 0, _ => rfl
  | k + 1, b => by rw [chunks8, List.length_cons, chunks8_len k]
end Go.Sc
namespace Go.Proofs.YthagkijplklemaaGreatDoor
open Go.ChangeShapes Go.WideShapes Go.ChangeAt Go.RowKit Go.Sc
theorem infSl : (Tryz.prog.info? 22).map (fun i => (i.zero, i.size, i.bytes)) = some (some (.slice none 0 0), 1, 24) := by kernel_rfl
def OwnOut (w : World) (n : Nat) (cs : List Value) (e : Ending) (w' : World) : Prop := ∃ (v : Value) (x : Ext w), e = .returned v ∧ w' = x.val ∧ Hid (x.val.ownsRow w.heap.size 5 1 v n cs)
/-- Eight bytes or more, cloned: a row of the call's own. -/
theorem clone_own (ad : Addr) (c : Nat) (xs : List Int) (w : World) (hs : Hid (Bytes w ⟨some ad, c, xs⟩)) (hl : xs.length ≤ 1099511627776) :
    Calls Tryz.prog 91 #[.slice (some ad) xs.length c] w (OwnOut w xs.length (xs.flatMap eByte.cells)) := by
  have hle := hs.out.le
  have hmx := hs.out.max
  simp only at hle hmx hl
  have hq := fun (w : World) (A : Option Addr) (n c : Nat) => Lib.run_eql_slice_nil (P := Tryz.prog) w 22 5 A n c 0 0 Tryz.underlying22
  go_enter Tryz.func91, Tryz.ntmps91
  go_wp2_with (at_builtin; refine wpList_appS _ rfl _ _ 22 rfl w.heap.size 5 (.int .u8 0) 1 1 Tryz.underlying22 infU8 rfl (by decide) _ 0 [] rfl (hid (World.ownsRow_made w #[] 0 (Nat.le_refl _) (by decide) rfl)) eByte ⟨some ad, c, xs⟩ (hid (hs.out.mono END)) (fun y _ => ⟨rfl, fun u hu => by simp [eByte] at hu; subst hu; rfl⟩) rfl (by unfold maxLen; simp only; omega) (by simp only; omega) (by simp) ?_; intro v' w1 ho hg hat)
  go_ret
  have ho2 := ho.out
  simp only [Nat.zero_add, List.nil_append] at ho2
  refine ⟨v', ⟨w1, ?_⟩, rfl, rfl, ho2⟩
  exact (Below.alloc (Below.refl _ _) (Nat.le_refl _) _).grown hg.out (by simp) (fun k hk => by have hk' : some w.heap.size = some k := hk; cases hk'; exact Nat.le_refl _)
def SplitOut (w : World) (l : List (List Int)) (e : Ending) (w' : World) : Prop :=
  ∃ (a : Option Addr) (c : Nat) (xs : List (Sl Int)), e = .returned (.tuple #[.slice a xs.length c, .int .i64 0]) ∧ (⟨a, c, xs⟩ : Sl (Sl Int)).Ok eSl 1 w' ∧ xs.map Sl.xs = l ∧ Below w.heap.size w w'
set_option maxRecDepth 20000 in
set_option maxHeartbeats 2000000 in
theorem split_any (s : Sl Int) (n : Nat) (hn : s.xs.length = 8 * n) (hl : s.xs.length ≤ 1000000) (w : World) (hs : Hid (Bytes w s)) : Calls Tryz.prog 88 #[s.v, .int .i64 8] w (SplitOut w (chunks8 n s.xs)) := by
  obtain ⟨a, c, bs⟩ := s
  have hle := hs.out.le
  have hmx := hs.out.max
  simp only at hle hmx hn hl
  show Calls _ _ #[.slice a bs.length c, _] _ _
  have HN := hid hn
  clear hn
  go_enter Tryz.func88, Tryz.ntmps88
  go_wp2_with fail
  go_loopw [6, 7] (fun o r wr => ∃ (k : Nat) (acc : List (Sl Int)) (F : Nat → Prop) (A : Option Addr) (C : Nat) (rs : List Int), k ≤ n ∧ Hid (rs = bs.drop (8 * k)) ∧ Hid (Bytes w ⟨A, C, rs⟩) ∧ r = .slice A rs.length C ∧ Hid (acc.map Sl.xs = chunks8 k bs) ∧ Hid (LI eSl 1 22 w o wr acc F)) (fun _ r _ => match r with | .slice _ l _ => l | _ => 0)
  case atStart => exact ⟨0, [], _, a, c, bs, Nat.zero_le _, rfl, hs, rfl, rfl, LI.start END⟩
  case round =>
    obtain ⟨k, acc, F, A, C, rs, hk, hrs, hB, rfl, hacc, hI⟩ := hrel
    have hwr := hI.out.below.size
    have hle1 := hB.out.le
    have hmx1 := hB.out.max
    simp only at hle1 hmx1
    have hlen : rs.length = 8 * (n - k) := by rw [hrs.out, List.length_drop, HN.out]; omega
    by_cases hlt : k < n
    · have h8 : 8 ≤ rs.length := by omega
      have hac : Hid (acc.length = k) := by have := congrArg List.length hacc.out; rw [List.length_map, chunks8_len] at this; exact this
      have HL := hid hlen
      have HLT := hid hlt
      have hr1 : (8 : Int) ≤ (rs.length : Int) := by omega
      have hr2 : (rs.length : Int) ≤ 1000000 := by have := HN.out; omega
      have hac2 : acc.length ≤ 1000000 := by have := hac.out; have := HN.out; omega
      have hr3 : (8 : Int) ≤ (C : Int) := by omega
      have hr4 : (rs.length : Int) ≤ (C : Int) := by omega
      have hr5 : (C : Int) ≤ 9223372036854775807 := by omega
      clear hlen hlt
      have hC : Hid (∀ W : World, Below w.heap.size w W → Calls Tryz.prog 91 #[.slice A 8 C] W fun e w' => ∃ (sa : Option Addr) (sc : Nat) (x : Ext W), e = .returned (.slice sa 8 sc) ∧ w' = x.val ∧ Hid (Bytes x.val ⟨sa, sc, rs.take 8⟩) ∧ Hid (∀ b o q, sa = some ⟨b, o, q⟩ → W.heap.size ≤ b)) := fun W hW => by
        have := clone_any ⟨A, C, rs.take 8⟩ W (hid (by
          have h1 := hB.out.mono hW
          refine ⟨by simp; omega, h1.max, h1.nil, fun j x hx => h1.at_ j x ?_⟩
          simp only [List.getElem?_take] at hx
          split at hx
          · exact hx
          · cases hx)) (by simp; omega)
        have e : (rs.take 8).length = 8 := by rw [List.length_take]; omega
        have h2 := this.go
        rw [Sl.v, e] at h2
        exact h2
      go_wp2_with (first | (go_at_call 91; refine (hC.out _ hI.out.below).mono ?_; rintro e w' ⟨sa, sc, x, rfl, rfl, hb, hf⟩; have hon : Hid (x.val.ownsRow w.heap.size 22 1 u6 acc.length (acc.flatMap eSl.cells)) := hid (own_ext x hI.out.own); haveI : LeW w.heap.size x.val := ⟨Nat.le_trans hwr x.size⟩) | (at_builtin; refine wpList_appL _ rfl _ _ 119 rfl w.heap.size 22 (.slice none 0 0) 1 24 Tryz.underlying119 infSl rfl (by decide) u6 acc.length (acc.flatMap eSl.cells) rfl hon #[.slice sa 8 sc] _ 1 1 rfl rfl (by intro q hq; simp at hq; subst hq; rfl) (by unfold maxLen; omega) (by omega) LeW.le ?_; intro v' w1 ho' hg hat) | fail)
      have hl8 : (rs.take 8).length = 8 := by rw [List.length_take]; omega
      refine ⟨⟨k + 1, acc ++ [⟨sa, sc, rs.take 8⟩], (fun b => F b ∨ inB ⟨sa, sc, rs.take 8⟩ b), (if C = 8 then A else Option.map (fun x => { block := x.block, off := x.off + 8 }) A), C - 8, rs.drop 8, by have := HLT.out; omega, ?_, ?_, ?_, ?_, hid (hI.out.step x (inB_new hb.out (fun e => absurd (congrArg List.length e) (by show ¬ (rs.take 8).length = 0; omega)) hf.out) (inB_ok hb.out) (own_eq (n' := (acc ++ [(⟨sa, sc, rs.take 8⟩ : Sl Int)]).length) (ys := (acc ++ [(⟨sa, sc, rs.take 8⟩ : Sl Int)]).flatMap eSl.cells) ho'.out (by simp) (by rw [List.flatMap_append, List.flatMap_cons, List.flatMap_nil, List.append_nil]; show _ = _ ++ [Value.slice sa (rs.take 8).length sc]; rw [hl8])) hg.out hat.out)⟩, by simp; omega⟩
      · exact hid (by rw [hrs.out, List.drop_drop]; congr 1)
      · exact hid (bytes_drop8 hB.out h8)
      · rw [List.length_drop]
      · exact hid (by rw [List.map_append, hacc.out, chunks8_snoc, ← hrs.out]; rfl)
    · obtain rfl : k = n := by omega
      obtain rfl : rs = [] := List.eq_nil_of_length_eq_zero (by omega)
      go_wp2_with fail
      obtain ⟨oa, oc, rfl, h1, _⟩ := sl_of_own (E := eSl) hI.out.own (fun x _ => rfl) (hI.out.ok wr (Nat.le_refl _) fun _ _ => rfl)
      go_returns
      exact ⟨oa, oc, acc, rfl, h1, hacc.out, hI.out.below⟩
end Go.Proofs.YthagkijplklemaaGreatDoor
end

section
namespace Go.Sc
open Go.RowKit
theorem chunks8_all : ∀ (k : Nat) (b : List Int), 8 * k ≤ b.length → ∀ x ∈ chunks8 k b, x.length = 8
  | 0, _, _, _, h => by cases h
  | k + 1, b, hl, x, h => by
    rw [chunks8] at h
    rcases List.mem_cons.1 h with rfl | h
    · rw [List.length_take]; omega
    · exact chunks8_all k (b.drop 8) (by rw [List.length_drop]; omega) x h
def invL (x : List Int) : List Int := x.map (255 - ·)
theorem invL_byt {x : List Int} (h : ∀ y ∈ x, byt y) : ∀ y ∈ invL x, byt y := by
  intro y hy
  obtain ⟨z, hz, rfl⟩ := List.mem_map.1 hy
  have := h z hz
  unfold byt at *
  omega
def hStep (h x : List Int) : List Int := xorL (encL h x) (h.take 8) ++ xorL (encL h (invL x)) (h.drop 8)
def blocksL (b : List Int) : List (List Int) := chunks8 ((padL b).length / 8 + 1) (padL b ++ put8 b.length)
def hashL (b : List Int) : List Int := (blocksL b).foldl hStep (List.replicate 16 0)
theorem hStep_len {h x : List Int} (hl : h.length = 16) : (hStep h x).length = 16 := by
  unfold hStep
  rw [List.length_append, xorL_len (by rw [encL_len, List.length_take]; omega), xorL_len (by rw [encL_len, List.length_drop]; omega), encL_len, encL_len]
theorem fold_len : ∀ (l : List (List Int)) (h : List Int), h.length = 16 → (l.foldl hStep h).length = 16
  | [], _, hl => hl
  | x :: l, h, hl => by rw [List.foldl_cons]; exact fold_len l _ (hStep_len hl)
theorem hashL_len (b : List Int) : (hashL b).length = 16 := fold_len _ _ (by simp)
theorem not_u8 {z : Int} (h0 : 0 ≤ z) (h1 : z ≤ 255) : bits BinOp.xor IntKind.u8 (if IntKind.u8.signed = true then -1 else IntKind.u8.max) z = 255 - z := by
  have h : ∀ n : Fin 256, bits BinOp.xor IntKind.u8 (if IntKind.u8.signed = true then -1 else IntKind.u8.max) (n.val : Int) = 255 - (n.val : Int) := by decide +kernel
  obtain ⟨n, rfl⟩ := Int.eq_ofNat_of_zero_le h0
  exact h ⟨n, by omega⟩
def turnS (x : List Int) (k j : Nat) : Value := .int .u8 (if j < k then 255 - x[j]?.getD 0 else x[j]?.getD 0)
theorem turnS_ne (x : List Int) (k j : Nat) (h : j ≠ k) : turnS x (k + 1) j = turnS x k j := by
  unfold turnS
  by_cases e : j < k
  · rw [if_pos e, if_pos (by omega)]
  · rw [if_neg e, if_neg (by omega)]
theorem turnS_at {x : List Int} {k : Nat} {z : Int} (h : x[k]? = some z) : turnS x (k + 1) k = .int .u8 (255 - z) := by
  unfold turnS; rw [if_pos (by omega), h]; rfl
theorem turnS_now {x : List Int} {k : Nat} {z : Int} (h : x[k]? = some z) : turnS x k k = .int .u8 z := by
  unfold turnS; rw [if_neg (by omega), h]; rfl
theorem turnS_end {x : List Int} {k j : Nat} {z : Int} (h : (invL x)[j]? = some z) (hk : j < k) : turnS x k j = .int .u8 z := by
  unfold turnS invL at *
  rw [if_pos hk]
  rw [List.getElem?_map] at h
  cases hx : x[j]? with
  | none => rw [hx] at h; cases h
  | some y => rw [hx] at h; cases h; rfl
theorem bytes_held' {w : World} {b n c : Nat} {f : Nat → Value} {xs : List Int} (h : Held w b n f) (hl : xs.length = n) (hc : n ≤ c) (hn : c ≤ maxLen) (hf : ∀ j x, xs[j]? = some x → f j = .int .u8 x) (hx : ∀ x ∈ xs, byt x) : Bytes w ⟨some ⟨b, 0, none⟩, c, xs⟩ :=
  ⟨by simp only; omega, by unfold maxLen at hn; exact hn, (fun e => by cases e), fun k x hk => ⟨hx x (List.mem_of_getElem? hk), b, 0, rfl, h.1, fun j v hv => by
    have hj : j = 0 := by
      rcases j with _ | j
      · rfl
      · simp [eByte] at hv
    subst hj
    simp [eByte] at hv
    subst hv
    have hlt := (List.getElem?_eq_some_iff.1 hk).1
    simp only at hlt
    rw [Nat.zero_add, Nat.mul_one, Nat.add_zero, (h.2 k (by omega)).1, hf k x hk]⟩⟩
theorem flat_u8 : ∀ (xs : List Int), xs.flatMap eByte.cells = xs.map (Value.int .u8)
  | [] => rfl
  | x :: r => by rw [List.flatMap_cons, List.map_cons, flat_u8 r]; rfl
/-- A row of the call's own that is not empty, as cells that are held. -/
theorem held_own {w : World} {B : Nat} {e : TypeId} {v : Value} {xs : List Int} (h : w.ownsRow B e 1 v xs.length (xs.flatMap eByte.cells)) (hne : xs ≠ []) :
    ∃ g cap, v = .slice (some ⟨g, 0, none⟩) xs.length cap ∧ xs.length ≤ cap ∧ cap ≤ maxLen ∧ B ≤ g ∧ Held w g xs.length (turnS xs 0) := by
  have hc := fun g => h.cells (g := g)
  rcases h.2 with ⟨rfl, hn⟩ | ⟨g, cap, cur, rfl, hB, hh, hnc, hcm, hsz, htk⟩
  · exact absurd (List.eq_nil_of_length_eq_zero hn) hne
  · refine ⟨g, cap, rfl, hnc, hcm, hB, (Array.getElem?_eq_some_iff.1 hh).1, fun j hj => ?_⟩
    have hadd : (⟨g, 0, none⟩ : Addr).add j = ⟨g, j, none⟩ := by unfold Addr.add; split <;> simp_all
    obtain ⟨x, hx⟩ := getElem?_of_lt hj
    have := hc g rfl j (.int .u8 x) (by rw [flat_u8, List.getElem?_map, hx]; rfl)
    rw [hadd] at this
    refine ⟨by rw [this]; unfold turnS; rw [if_neg (by omega), hx]; rfl, ?_⟩
    simp [World.frozen?, hh]
end Go.Sc
namespace Go.Proofs.YthagkijplklemaaGreatDoor
open Go.ChangeShapes Go.WideShapes Go.ChangeAt Go.RowKit Go.Sc
theorem giv {P : Program} {f : FuncId} {args : Array Value} {w : World} {r : Value → Value} {xs : List Int} (h : GivesB P f args w r xs) (n : Nat) (hn : xs.length = n) :
    Calls P f args w fun e w' => ∃ (a : Option Addr) (c : Nat) (x : Ext w), e = .returned (r (.slice a n c)) ∧ w' = x.val ∧ Hid (Bytes x.val ⟨a, c, xs⟩) :=
  h.mono fun e w' ⟨a, c, he, hb, hw, hf⟩ => ⟨a, c, ⟨w', hw⟩, by rw [← hn]; exact he, rfl, hb⟩
theorem join2 (W : World) (s t : Sl Int) (n m k : Nat) (hs : Bytes W s) (ht : Bytes W t) (hn : s.xs.length = n) (hm : t.xs.length = m) (hk : k = n + m) (hkl : k ≤ 2000000) :
    Calls Tryz.prog 89 #[.slice (some ⟨W.heap.size, 0, none⟩) 2 2] (W.alloc (.cells #[.slice s.a n s.c, .slice t.a m t.c] 22)) fun e w' =>
      ∃ (a : Option Addr) (c : Nat) (x : Ext W), e = .returned (.slice a k c) ∧ w' = x.val ∧ Hid (Bytes x.val ⟨a, c, s.xs ++ t.xs⟩) := by
  have h3 := sl_two W s t 22 _ rfl hs ht
  have hc : catL [s, t] = s.xs ++ t.xs := by simp [catL]
  have hb : Below W.heap.size W (W.alloc (.cells #[.slice s.a n s.c, .slice t.a m t.c] 22)) := END
  have h4 := join_any ⟨some ⟨W.heap.size, 0, none⟩, 2, [s, t]⟩ (W.alloc (.cells #[s.v, t.v] 22)) h3 (by rw [hc, List.length_append]; omega)
  have h5 : GivesB Tryz.prog 89 #[.slice (some ⟨W.heap.size, 0, none⟩) 2 2] (W.alloc (.cells #[.slice s.a n s.c, .slice t.a m t.c] 22)) (fun v => v) (catL [s, t]) := by
    rw [← hn, ← hm]; exact h4
  refine (giv h5 k (by rw [hc, List.length_append]; omega)).mono ?_
  rintro e w' ⟨a, c, x, rfl, rfl, h5⟩
  exact ⟨a, c, ⟨x.val, hb.trans (x.below.mono hb.size)⟩, rfl, rfl, by rw [← hc]; exact h5⟩
theorem join2o (W : World) (s t : Sl Int) (n m k : Nat) (hs : Bytes W s) (ht : Bytes W t) (hn : s.xs.length = n) (hm : t.xs.length = m) (hk : k = n + m) (hkl : k ≤ 2000000) (hk0 : 0 < k) :
    Calls Tryz.prog 89 #[.slice (some ⟨W.heap.size, 0, none⟩) 2 2] (W.alloc (.cells #[.slice s.a n s.c, .slice t.a m t.c] 22)) fun e w' =>
      ∃ (b c : Nat) (x : Ext W), e = .returned (.slice (some ⟨b, 0, none⟩) k c) ∧ w' = x.val ∧ Hid (W.heap.size ≤ b) ∧ Hid (Bytes x.val ⟨some ⟨b, 0, none⟩, c, s.xs ++ t.xs⟩) := by
  have h3 := sl_two W s t 22 _ rfl hs ht
  have hc : catL [s, t] = s.xs ++ t.xs := by simp [catL]
  have hb : Below W.heap.size W (W.alloc (.cells #[.slice s.a n s.c, .slice t.a m t.c] 22)) := END
  have hl : (catL [s, t]).length = k := by rw [hc, List.length_append]; omega
  have h4 := join_own ⟨some ⟨W.heap.size, 0, none⟩, 2, [s, t]⟩ (W.alloc (.cells #[s.v, t.v] 22)) h3 (by rw [hl]; omega)
  have h5 : Calls Tryz.prog 89 #[.slice (some ⟨W.heap.size, 0, none⟩) 2 2] (W.alloc (.cells #[.slice s.a n s.c, .slice t.a m t.c] 22)) fun e w' => ∃ v, e = .returned v ∧ w'.ownsRow (W.alloc (.cells #[.slice s.a n s.c, .slice t.a m t.c] 22)).heap.size 5 1 v (catL [s, t]).length ((catL [s, t]).flatMap eByte.cells) ∧ Below (W.alloc (.cells #[.slice s.a n s.c, .slice t.a m t.c] 22)).heap.size (W.alloc (.cells #[.slice s.a n s.c, .slice t.a m t.c] 22)) w' := by
    rw [← hn, ← hm]; exact h4
  refine h5.mono ?_
  rintro e w' ⟨v, rfl, ho, hbl⟩
  obtain ⟨A, C, rfl, h1, h2⟩ := sl_of_own (E := eByte) ho (fun x _ => rfl) (catL_byt h3)
  rcases ho.2 with ⟨hv, h0⟩ | ⟨g, cap, cur, hv, hgg, _⟩
  · omega
  · simp only [Value.slice.injEq] at hv
    obtain ⟨rfl, _, rfl⟩ := hv
    exact ⟨g, C, ⟨w', hb.trans (hbl.mono hb.size)⟩, by rw [hl], rfl, Nat.le_trans hb.size hgg, by rw [← hc]; exact h1⟩
theorem make16 (w : World) : (Instr.makeSlice 22 (.int .i64 16) (.int .i64 16)).run Tryz.prog w = .ok (.slice (some ⟨w.heap.size, 0, none⟩) 16 16) (w.alloc (.cells #[.int .u8 0, .int .u8 0, .int .u8 0, .int .u8 0, .int .u8 0, .int .u8 0, .int .u8 0, .int .u8 0, .int .u8 0, .int .u8 0, .int .u8 0, .int .u8 0, .int .u8 0, .int .u8 0, .int .u8 0, .int .u8 0] 5)) := by kernel_rfl
theorem addr_of {w : World} {A : Option Addr} {C : Nat} {xs : List Int} (h : Bytes w ⟨A, C, xs⟩) (hne : 0 < xs.length) : ∃ b o, A = some ⟨b, o, none⟩ ∧ b < w.heap.size := by
  obtain ⟨x, hx⟩ := getElem?_of_lt hne
  obtain ⟨_, b, off, h2, h3, _⟩ := h.at_ 0 x hx
  exact ⟨b, off, h2, h3⟩
set_option maxRecDepth 100000 in
set_option maxHeartbeats 4000000 in
theorem mhash_any (s : Sl Int) (w : World) (hs : Hid (Bytes w s)) (hl : s.xs.length ≤ 900000) : GivesB Tryz.prog 54 #[s.v] w (fun v => v) (hashL s.xs) := by
  obtain ⟨a, c, bs⟩ := s
  have hle := hs.out.le
  have hmx := hs.out.max
  simp only at hle hmx hl
  show GivesB _ _ #[.slice a bs.length c] _ _ _
  have hmk := make16
  have hpl := padL_len bs
  obtain ⟨n, hn⟩ : ∃ n, (padL bs).length = 8 * n := ⟨(padL bs).length / 8, by omega⟩
  have hby : ∀ x ∈ padL bs, byt x := padL_byt hs.out.range
  have hP : Hid (∀ W : World, Below w.heap.size w W → Calls Tryz.prog 90 #[.slice a bs.length c] W fun e w' => ∃ (a : Option Addr) (c : Nat) (x : Ext W), e = .returned (.slice a (8 * n) c) ∧ w' = x.val ∧ Hid (Bytes x.val ⟨a, c, padL bs⟩)) :=
    fun W hW => giv (mpad_any ⟨a, c, bs⟩ W (hs.out.mono hW) (by simp only; omega)) _ hn
  have hU : Hid (∀ W : World, Calls Tryz.prog 87 #[.int .i64 bs.length, .int .i64 8] W fun e w' => ∃ (a : Option Addr) (c : Nat) (x : Ext W), e = .returned (.tuple #[.slice a 8 c, .int .i64 0]) ∧ w' = x.val ∧ Hid (Bytes x.val ⟨a, c, put8 bs.length⟩)) :=
    fun W => giv (put8_any bs.length (by omega) (by omega) W) 8 rfl
  have hJ : Hid (∀ (W : World) (a1 : Option Addr) (c1 : Nat) (a2 : Option Addr) (c2 : Nat), Bytes W ⟨a1, c1, padL bs⟩ → Bytes W ⟨a2, c2, put8 bs.length⟩ → Calls Tryz.prog 89 #[.slice (some ⟨W.heap.size, 0, none⟩) 2 2] (W.alloc (.cells #[.slice a1 (8 * n) c1, .slice a2 8 c2] 22)) fun e w' =>
      ∃ (a : Option Addr) (c : Nat) (x : Ext W), e = .returned (.slice a (8 * (n + 1)) c) ∧ w' = x.val ∧ Hid (Bytes x.val ⟨a, c, padL bs ++ put8 bs.length⟩)) := fun W a1 c1 a2 c2 h1 h2 =>
    join2 W ⟨a1, c1, padL bs⟩ ⟨a2, c2, put8 bs.length⟩ (8 * n) 8 (8 * (n + 1)) h1 h2 hn rfl (by omega) (by omega)
  have hS : Hid (∀ (W : World) (A : Option Addr) (C : Nat), Bytes W ⟨A, C, padL bs ++ put8 bs.length⟩ → Calls Tryz.prog 88 #[.slice A (8 * (n + 1)) C, .int .i64 8] W fun e w' =>
      ∃ (a : Option Addr) (c : Nat) (xs : List (Sl Int)) (x : Ext W), e = .returned (.tuple #[.slice a xs.length c, .int .i64 0]) ∧ w' = x.val ∧ Hid ((⟨a, c, xs⟩ : Sl (Sl Int)).Ok eSl 1 x.val) ∧ Hid (xs.map Sl.xs = blocksL bs) ∧ Hid (∀ y ∈ xs, y.xs.length = 8)) := fun W A C h => by
    have hln : (padL bs ++ put8 bs.length).length = 8 * (n + 1) := by rw [List.length_append, hn]; show 8 * n + 8 = _; omega
    have h4 := split_any ⟨A, C, padL bs ++ put8 bs.length⟩ (n + 1) hln (by rw [hln]; omega) W h
    rw [Sl.v, hln] at h4
    refine h4.mono ?_
    rintro e w' ⟨a, c, xs, rfl, h5, h6, h7⟩
    refine ⟨a, c, xs, ⟨w', h7⟩, rfl, rfl, h5, ?_, fun y hy => ?_⟩
    · rw [h6, blocksL, hn, Nat.mul_div_cancel_left _ (by omega)]; rfl
    · exact chunks8_all (n + 1) (padL bs ++ put8 bs.length) (by omega) _ (by rw [← h6]; exact List.mem_map.2 ⟨y, hy, rfl⟩)
  have hn1 : (8 : Int) * (n : Int) ≤ 1000000 := by omega
  clear hn hpl hby
  unfold GivesB
  go_enter Tryz.func54, Tryz.ntmps54
  go_wp2_with (first | (go_at_call 87; refine (hU.out _).mono ?_; rintro e w' ⟨pa, pc, x1, rfl, rfl, hb1⟩) | (go_at_call 90; refine (hP.out _ END).mono ?_; rintro e w' ⟨qa, qc, x2, rfl, rfl, hb2⟩) | (go_at_call 89; refine (hJ.out _ _ _ _ _ (hb2.out.mono END) (hb1.out.mono END)).mono ?_; rintro e w' ⟨ja, jc, x3, rfl, rfl, hb3⟩) | (go_at_call 88; refine (hS.out _ _ _ hb3.out).mono ?_; rintro e w' ⟨sa, sc, xs, x4, rfl, rfl, hb4, hx4, hx8⟩) | fail)
  have HB4 : Hid (Below w.heap.size w x4.val) := hid END
  have hz0 : Bytes (w.alloc (.cells #[.int .u8 0, .int .u8 0, .int .u8 0, .int .u8 0, .int .u8 0, .int .u8 0, .int .u8 0, .int .u8 0, .int .u8 0, .int .u8 0, .int .u8 0, .int .u8 0, .int .u8 0, .int .u8 0, .int .u8 0, .int .u8 0] 5)) ⟨some ⟨w.heap.size, 0, none⟩, 16, List.replicate 16 0⟩ := bytes_new w (List.replicate 16 0) 5 _ rfl (fun x hx => by rw [List.eq_of_mem_replicate hx]; exact ⟨by omega, by omega⟩) (by simp)
  have hz : Hid (Bytes x4.val ⟨some ⟨w.heap.size, 0, none⟩, 16, List.replicate 16 0⟩) := hid (hz0.mono END)
  have hle4 := hb4.out.le
  have hmx4 := hb4.out.max
  simp only at hle4 hmx4
  clear hb1 hb2 hb3 hP hU hJ hS
  go_loopw [3, 30] (fun h i wr => ∃ (k b off hc : Nat) (hL : List Int), k ≤ xs.length ∧ i = .int .i64 k ∧ h = .slice (some ⟨b, off, none⟩) 16 hc ∧ Hid (hL.length = 16) ∧ Hid (Bytes wr ⟨some ⟨b, off, none⟩, hc, hL⟩) ∧ Hid (hL = ((xs.take k).map Sl.xs).foldl hStep (List.replicate 16 0)) ∧ Hid (Below x4.val.heap.size x4.val wr) ∧ Hid (w.heap.size ≤ b)) (fun _ i _ => xs.length - (intOf i).toNat)
  case atStart => exact ⟨0, _, 0, 16, List.replicate 16 0, Nat.zero_le _, rfl, rfl, hid (by simp), hz, rfl, Below.refl _ _, hid (Nat.le_refl _)⟩
  case round =>
    rename World => wo
    obtain ⟨k, b, off, hc, hL, hk, rfl, rfl, hl16, hhB, hhL, hbl, hbge⟩ := hrel
    have hwr := hbl.out.size
    by_cases hlt : k < xs.length
    · obtain ⟨y, hy⟩ := getElem?_of_lt hlt
      obtain ⟨hok, xb, xo, hba, hxl, hcx⟩ := hb4.out.at_ k y hy
      simp only at hba
      subst hba
      have hy8 := hx8.out y (List.mem_of_getElem? hy)
      obtain ⟨ya, yc, yl⟩ := y
      simp only at hy8
      obtain ⟨yb, yo, rfl, hybl⟩ := addr_of (show Bytes x4.val ⟨ya, yc, yl⟩ from hok) (by omega)
      have cx : wo.cell? ⟨xb, xo + k, none⟩ = some (.slice (some ⟨yb, yo, none⟩) 8 yc) := (hbl.out.cell (p := ⟨xb, xo + k, none⟩) hxl).trans (by have := hcx 0 _ rfl; simp only [Nat.mul_one, Nat.add_zero] at this; rw [this, ← hy8])
      have hyB : Hid (Bytes wo ⟨some ⟨yb, yo, none⟩, yc, yl⟩) := hid (Sl.Ok.mono hok hbl.out)
      have hyle := hyB.out.le
      have hymx := hyB.out.max
      simp only [hy8] at hyle hymx
      have hhle := hhB.out.le
      have hhmx := hhB.out.max
      simp only [hl16.out] at hhle hhmx
      have HY := hid hy
      have HY8 := hid hy8
      have HLT := hid hlt
      have hk1 : (0 : Int) ≤ (k : Int) := by omega
      have hk2 : (k : Int) < (xs.length : Int) := by omega
      have hC : Hid (∀ W : World, Below wo.heap.size wo W → Calls Tryz.prog 91 #[.slice (some ⟨yb, yo, none⟩) 8 yc] W fun e w' => ∃ (g cap : Nat) (x : Ext W), e = .returned (.slice (some ⟨g, 0, none⟩) 8 cap) ∧ w' = x.val ∧ 8 ≤ cap ∧ cap ≤ 9223372036854775807 ∧ Hid (W.heap.size ≤ g) ∧ Hid (Held x.val g 8 (turnS yl 0))) := fun W hW => by
        have h1 := clone_own ⟨yb, yo, none⟩ yc yl W (hid (hyB.out.mono hW)) (by omega)
        rw [hy8] at h1
        refine h1.mono ?_
        rintro e w' ⟨v, x, rfl, rfl, ho⟩
        obtain ⟨g, cap, rfl, h2, h3, h4, h5⟩ := held_own (own_len ho.out hy8.symm) (by intro e; rw [e] at hy8; simp at hy8)
        rw [hy8] at h2 h5 ⊢
        exact ⟨g, cap, x, rfl, rfl, h2, h3, h4, h5⟩
      clear hy hy8 hok hcx hxl hybl hlt
      go_wp2_with (first | (go_at_call 91; refine (hC.out _ END).mono ?_; rintro e w' ⟨g, cap, x5, rfl, rfl, hcp1, hcp2, hgb, hgh⟩) | fail)
      have hB5 : Hid (Below wo.heap.size wo x5.val) := hid END
      go_loopw [38] (fun i wi => ∃ j : Nat, j ≤ 8 ∧ i = .int .i64 j ∧ Hid (Below wo.heap.size wo wi) ∧ Hid (Held wi g 8 (turnS yl j))) (fun i _ => 8 - (intOf i).toNat)
      case atStart => exact ⟨0, Nat.zero_le _, rfl, hB5, hgh⟩
      case round =>
        obtain ⟨j, hj, rfl, hbi, hgi⟩ := hrel
        have hgsz := hgi.out.1
        haveI : InW g wr := ⟨hgsz⟩
        obtain hlt | rfl : j < 8 ∨ j = 8 := by omega
        · obtain ⟨z, hz1⟩ := getElem?_of_lt (show j < yl.length by have := HY8.out; omega)
          have hzr : 0 ≤ z ∧ z ≤ 255 := (hyB.out.range) z (List.mem_of_getElem? hz1)
          obtain ⟨hz2, hz3⟩ := hzr
          have cz : wr.cell? ⟨g, j, none⟩ = some (.int .u8 z) := by rw [(hgi.out.2 j hlt).1, turnS_now hz1]
          have fz := (hgi.out.2 j hlt).2
          have HZ := hid hz1
          have hj1 : (0 : Int) ≤ (j : Int) := by omega
          have hj2 : (j : Int) < 8 := by omega
          clear hz1
          go_wp2_with fail
          go_roundw
          case rel => exact ⟨j + 1, by omega, by go_num, hid ENDX, hid (hgi.out.set hlt ((turnS_at HZ.out).trans (by rw [not_u8 hz2 hz3])) (fun m e => turnS_ne _ j m e))⟩
          case measure => simp [intOf]; omega
        · go_wp2_with fail
          have hinv : Hid (Bytes wr ⟨some ⟨g, 0, none⟩, cap, invL yl⟩) := hid (bytes_held' hgi.out (by rw [invL, List.length_map]; exact HY8.out) hcp1 hcp2 (fun j z hz => turnS_end hz (by have := (List.getElem?_eq_some_iff.1 hz).1; rw [invL, List.length_map, HY8.out] at this; exact this)) (invL_byt hyB.out.range))
          have hE1 : Hid (∀ W : World, Below wr.heap.size wr W → Calls Tryz.prog 93 #[.slice (some ⟨b, off, none⟩) 16 hc, .slice (some ⟨yb, yo, none⟩) 8 yc] W fun e w' => ∃ (a : Option Addr) (c : Nat) (x : Ext W), e = .returned (.slice a 8 c) ∧ w' = x.val ∧ Hid (Bytes x.val ⟨a, c, encL hL yl⟩)) := fun W hW =>
            giv (mencrypt_any b off hc hL hl16.out yb yo yc yl HY8.out W (hid ((hhB.out.mono hbi.out).mono hW)) (hid ((hyB.out.mono hbi.out).mono hW))) 8 rfl
          have hE2 : Hid (∀ W : World, Below wr.heap.size wr W → Calls Tryz.prog 93 #[.slice (some ⟨b, off, none⟩) 16 hc, .slice (some ⟨g, 0, none⟩) 8 cap] W fun e w' => ∃ (a : Option Addr) (c : Nat) (x : Ext W), e = .returned (.slice a 8 c) ∧ w' = x.val ∧ Hid (Bytes x.val ⟨a, c, encL hL (invL yl)⟩)) := fun W hW =>
            giv (mencrypt_any b off hc hL hl16.out g 0 cap (invL yl) (by rw [invL, List.length_map]; exact HY8.out) W (hid ((hhB.out.mono hbi.out).mono hW)) (hid (hinv.out.mono hW))) 8 rfl
          have hX1 : Hid (∀ (W : World) (A : Option Addr) (C : Nat), Below wr.heap.size wr W → Bytes W ⟨A, C, encL hL yl⟩ → Calls Tryz.prog 92 #[.slice A 8 C, .slice (some ⟨b, off, none⟩) 8 hc] W fun e w' => ∃ (a : Option Addr) (c : Nat) (x : Ext W), e = .returned (.slice a 8 c) ∧ w' = x.val ∧ Hid (Bytes x.val ⟨a, c, xorL (encL hL yl) (hL.take 8)⟩)) := fun W A C hW hA => by
            have hl8 : (hL.take 8).length = 8 := by rw [List.length_take, hl16.out]; rfl
            have h1 := mxor_any ⟨A, C, encL hL yl⟩ ⟨some ⟨b, off, none⟩, hc, hL.take 8⟩ rfl hl8 W hA (hid (by
              have h1 := (hhB.out.mono hbi.out).mono hW
              refine ⟨by rw [hl8]; simp only; omega, h1.max, h1.nil, fun j x hx => h1.at_ j x ?_⟩
              simp only [List.getElem?_take] at hx
              split at hx
              · exact hx
              · cases hx))
            rw [Sl.v, Sl.v, hl8] at h1
            exact giv h1 8 ((xorL_len (by rw [hl8]; rfl)).trans rfl)
          have hX2 : Hid (∀ (W : World) (A : Option Addr) (C : Nat), Below wr.heap.size wr W → Bytes W ⟨A, C, encL hL (invL yl)⟩ → Calls Tryz.prog 92 #[.slice A 8 C, .slice (some ⟨b, off + 8, none⟩) 8 (hc - 8)] W fun e w' => ∃ (a : Option Addr) (c : Nat) (x : Ext W), e = .returned (.slice a 8 c) ∧ w' = x.val ∧ Hid (Bytes x.val ⟨a, c, xorL (encL hL (invL yl)) (hL.drop 8)⟩)) := fun W A C hW hA => by
            have hl8 : (hL.drop 8).length = 8 := by rw [List.length_drop, hl16.out]
            have h2 := bytes_drop ((hhB.out.mono hbi.out).mono hW) (k := 8) (by rw [hl16.out]; omega)
            simp only [Option.map_some, addr_add] at h2
            have h1 := mxor_any ⟨A, C, encL hL (invL yl)⟩ ⟨some ⟨b, off + 8, none⟩, hc - 8, hL.drop 8⟩ rfl hl8 W hA h2
            rw [Sl.v, Sl.v, hl8] at h1
            exact giv h1 8 ((xorL_len (by rw [hl8]; rfl)).trans rfl)
          have hJ2 : Hid (∀ (W : World) (a1 : Option Addr) (c1 : Nat) (a2 : Option Addr) (c2 : Nat), Bytes W ⟨a1, c1, xorL (encL hL yl) (hL.take 8)⟩ → Bytes W ⟨a2, c2, xorL (encL hL (invL yl)) (hL.drop 8)⟩ → Calls Tryz.prog 89 #[.slice (some ⟨W.heap.size, 0, none⟩) 2 2] (W.alloc (.cells #[.slice a1 8 c1, .slice a2 8 c2] 22)) fun e w' =>
              ∃ (b c : Nat) (x : Ext W), e = .returned (.slice (some ⟨b, 0, none⟩) 16 c) ∧ w' = x.val ∧ Hid (W.heap.size ≤ b) ∧ Hid (Bytes x.val ⟨some ⟨b, 0, none⟩, c, hStep hL yl⟩)) := fun W a1 c1 a2 c2 h1 h2 => by
            have hl1 : (xorL (encL hL yl) (hL.take 8)).length = 8 := (xorL_len (by rw [List.length_take, hl16.out]; rfl)).trans rfl
            have hl2 : (xorL (encL hL (invL yl)) (hL.drop 8)).length = 8 := (xorL_len (by rw [List.length_drop, hl16.out]; rfl)).trans rfl
            refine (join2o W ⟨a1, c1, xorL (encL hL yl) (hL.take 8)⟩ ⟨a2, c2, xorL (encL hL (invL yl)) (hL.drop 8)⟩ 8 8 16 h1 h2 hl1 hl2 rfl (by omega) (by omega)).mono ?_
            rintro e w' ⟨b, c, x, rfl, rfl, h0, h3⟩
            exact ⟨b, c, x, rfl, rfl, h0, h3⟩
          have hs16 : Hid ((hStep hL yl).length = 16) := hStep_len hl16.out
          have hlc : (8 : Int) ≤ (hc : Int) := by omega
          go_region_held3 (fun _ => True) (trivial) (first | (go_at_call 93; first | ((with_reducible refine (hE1.out _ ?_).mono ?_); (exact ENDX); (rintro e w' ⟨a1, c1, y1, rfl, rfl, hy1⟩)) | ((with_reducible refine (hE2.out _ ?_).mono ?_); (exact ENDX); (rintro e w' ⟨a2, c2, y2, rfl, rfl, hy2⟩))) | (go_at_call 92; first | ((with_reducible refine (hX1.out _ _ _ ?_ (hy1.out.mono ?_)).mono ?_); (exact ENDX); (exact END); (rintro e w' ⟨a3, c3, y3, rfl, rfl, hy3⟩)) | ((with_reducible refine (hX2.out _ _ _ ?_ (hy2.out.mono ?_)).mono ?_); (exact ENDX); (exact END); (rintro e w' ⟨a4, c4, y4, rfl, rfl, hy4⟩))) | (go_at_call 89; (with_reducible refine (hJ2.out _ _ _ _ _ (hy3.out.mono ?_) (hy4.out.mono ?_)).mono ?_); (exact END); (exact END); (rintro e w' ⟨b5, c5, y5, rfl, rfl, hg5, hy5⟩)))
          go_wp2_with fail
          go_roundw
          case rel => exact ⟨k + 1, b5, 0, c5, hStep hL yl, by have := HLT.out; omega, by go_num, rfl, hs16, hy5, hid (by rw [List.take_add_one, HY.out, hhL.out, List.map_append, List.foldl_append]; rfl), hid (hbl.out.trans ((hbi.out.trans (Below.mono (show Below wr.heap.size wr y5.val from END) hbi.out.size)).mono hwr)), hid (Nat.le_trans (Nat.le_trans HB4.out.size (Nat.le_trans hwr (Nat.le_trans hbi.out.size END))) hg5.out)⟩
          case measure => simp [intOf]; have := HLT.out; omega
    · obtain rfl : k = xs.length := by omega
      go_wp2_with fail
      have e : hL = hashL bs := by rw [hhL.out, List.take_length, hx4.out]; rfl
      rw [← e, hl16.out]
      go_ret
      exact ⟨_, _, rfl, hhB.out, HB4.out.trans (hbl.out.mono HB4.out.size), fun b' o q h => by cases h; exact hbge.out⟩
end Go.Proofs.YthagkijplklemaaGreatDoor
end
