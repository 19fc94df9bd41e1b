/- Rows of bytes that a function of the reference makes and hands back; xor. The reference: Pad, Put. The reference's Hash. The reference's writer: numbers, names, references, types. The reference's encoding of an instruction. The reference's code.Encode, of instructions that Check accepts. -/
import Derived.Test.YthagkijplklemaaGreatDoorS22
import Derived.Test.YthagkijplklemaaGreatDoorS25
import Derived.Deep.Onto
import Derived.Deep.RegionHeld3
import Derived.Test.YthagkijplklemaaGreatDoorS15
import Derived.Test.YthagkijplklemaaGreatDoorS09
section
namespace Go.Proofs.YthagkijplklemaaGreatDoor
open Go.ChangeShapes Go.WideShapes Go.ChangeAt Go.RowKit Go.Sc
/-- The call returns a row of bytes of its own; nothing that was there has turned. -/
def GivesR (f : FuncId) (args : Array Value) (w : World) (r : Value → Value) (xs : List Int) : Prop :=
  Calls Tryz.prog f args w fun e w' => ∃ v, e = .returned (r v) ∧ w'.ownsRow w.heap.size 5 1 v xs.length (vU xs) ∧ Below w.heap.size w w'
theorem own_sl {w : World} {B : Nat} {v : Value} {xs : List Int} (h : w.ownsRow B 5 1 v xs.length (vU xs)) (hb : ∀ x ∈ xs, byt x) : ∃ a c, v = .slice a xs.length c ∧ Bytes w ⟨a, c, xs⟩ ∧ ∀ b o q, a = some ⟨b, o, q⟩ → B ≤ b ∧ b < w.heap.size := by
  rw [vU_cells] at h
  exact sl_of_own h (fun _ _ => rfl) hb
theorem GivesR.go {f : FuncId} {args : Array Value} {w : World} {r : Value → Value} {xs : List Int} (h : GivesR f args w r xs) (hb : ∀ x ∈ xs, byt x) (n : Nat) (hn : xs.length = n) :
    Calls Tryz.prog f args w fun e w' => ∃ (a : Option Addr) (c : Nat) (x : Ext w), e = .returned (r (.slice a n c)) ∧ w' = x.val ∧ Hid (x.val.ownsRow w.heap.size 5 1 (.slice a n c) xs.length (vU xs)) ∧ Hid (Bytes x.val ⟨a, c, xs⟩) :=
  h.mono fun _ w' ⟨v, he, ho, hw⟩ => by
    obtain ⟨a, c, rfl, h1, _⟩ := own_sl ho hb
    subst hn
    exact ⟨a, c, ⟨w', hw⟩, he, rfl, ho, h1⟩
theorem own_base {w : World} {B C : Nat} {v : Value} {n : Nat} {xs : List Value} (h : w.ownsRow B 5 1 v n xs) (hb : C ≤ B) : w.ownsRow C 5 1 v n xs := h.mono hb
theorem own_lit (w : World) (B : Nat) (us : List Int) (hB : B ≤ w.heap.size) (hl : us.length ≤ 1000000) : (w.alloc (.cells (us.map (Value.int .u8)).toArray 5)).ownsRow B 5 1 (.slice (some ⟨w.heap.size, 0, none⟩) us.length us.length) us.length (vU us) :=
  World.ownsRow_lit (base := B) (size := 1) w (us.map (Value.int .u8)).toArray us.length hB (by unfold maxLen; omega) (by simp)
section
variable (w : World) {ops : Array Oper} {rest : List Oper} {o : Oper} {a : Act} {Q : Exit → Act → World → Prop}
/-- Bytes appended to a row of the call's own. -/
theorem wp_apB {K : Act → World → Prop} (s x : Operand) (ho : o.op = .call { callee := .builtin .append, args := #[s, x], argTypes := #[22, 22] })
    (B : Nat) (v : Value) (pre : List Int) (hs : a.eval s = v) (hown : Hid (w.ownsRow B 5 1 v pre.length (vU pre))) (A : Option Addr) (C : Nat) (xs : List Int) (hb : Hid (Bytes w ⟨A, C, xs⟩)) (hx : a.eval x = .slice A xs.length C)
    (hl : pre.length + xs.length ≤ 1099511627776) (hbase : B ≤ w.heap.size)
    (h : ∀ (v' : Value) (y : Gx 5 B w), Hid (y.val.ownsRow B 5 1 v' (pre ++ xs).length (vU (pre ++ xs))) → K (a.put o.dst v') y.val) : o.wp Tryz.prog a w K Q :=
  wp_appS w s x 22 ho B 5 (.int .u8 0) 1 1 Tryz.underlying22 infU8 rfl (by decide) v pre.length (vU pre) hs hown eByte ⟨A, C, xs⟩ hb (fun y _ => ⟨rfl, fun u hu => by simp [eByte] at hu; subst hu; rfl⟩) hx (by unfold maxLen; simp only; omega) (by simp only; omega) hbase
    fun v' w' h1 h2 _ => h v' ⟨w', Gr.of_grown hown.out h2.out⟩ (hid (own_eq h1.out (by simp) (by rw [← vU_cells]; simp)))
theorem wpList_apB (hgd : o.guard = none) (s x : Operand) (ho : o.op = .call { callee := .builtin .append, args := #[s, x], argTypes := #[22, 22] })
    (B : Nat) (v : Value) (pre : List Int) (hs : a.eval s = v) (hown : Hid (w.ownsRow B 5 1 v pre.length (vU pre))) (A : Option Addr) (C : Nat) (xs : List Int) (hb : Hid (Bytes w ⟨A, C, xs⟩)) (hx : a.eval x = .slice A xs.length C)
    (hl : pre.length + xs.length ≤ 1099511627776) (hbase : B ≤ w.heap.size)
    (h : ∀ (v' : Value) (y : Gx 5 B w), Hid (y.val.ownsRow B 5 1 v' (pre ++ xs).length (vU (pre ++ xs))) → wpList Tryz.prog ops Q rest (a.put o.dst v') y.val) : wpList Tryz.prog ops Q (o :: rest) a w :=
  wpList_plain hgd fun _ hK => wp_apB w s x ho B v pre hs hown A C xs hb hx hl hbase fun v' y hy => hK _ _ (h v' y hy)
theorem step_apB {K : Act → World → Prop} {E : Prop} (hgd : o.guard = none) (s x : Operand) (ho : o.op = .call { callee := .builtin .append, args := #[s, x], argTypes := #[22, 22] })
    (B : Nat) (v : Value) (pre : List Int) (hs : a.eval s = v) (hown : Hid (w.ownsRow B 5 1 v pre.length (vU pre))) (A : Option Addr) (C : Nat) (xs : List Int) (hb : Hid (Bytes w ⟨A, C, xs⟩)) (hx : a.eval x = .slice A xs.length C)
    (hl : pre.length + xs.length ≤ 1099511627776) (hbase : B ≤ w.heap.size)
    (h : ∀ (v' : Value) (y : Gx 5 B w), Hid (y.val.ownsRow B 5 1 v' (pre ++ xs).length (vU (pre ++ xs))) → K (a.put o.dst v') y.val) : if Region.wanted o (yielded ops a.tmps) = true then Oper.wp Tryz.prog o a w K Q else E := by
  have hw : Region.wanted o (yielded ops a.tmps) = true := by simp [Region.wanted, hgd]
  rw [if_pos hw]
  exact wp_apB w s x ho B v pre hs hown A C xs hb hx hl hbase h
end
end Go.Proofs.YthagkijplklemaaGreatDoor
end

section
namespace Go.Proofs.YthagkijplklemaaGreatDoor
open Go.ChangeShapes Go.WideShapes Go.ChangeAt Go.RowKit Go.Sc
end Go.Proofs.YthagkijplklemaaGreatDoor
end

section
namespace Go.Proofs.YthagkijplklemaaGreatDoor
open Go.ChangeShapes Go.WideShapes Go.ChangeAt Go.RowKit Go.Sc
section
variable (w : World) {ops : Array Oper} {rest : List Oper} {o : Oper} {a : Act} {Q : Exit → Act → World → Prop}
end
/-- A row of bytes, shut against simp. -/
def Row (w : World) (B : Nat) (v : Value) (xs : List Int) : Prop := w.ownsRow B 5 1 v xs.length (vU xs)
theorem Row.eq {w : World} {B n : Nat} {v : Value} {xs : List Int} {ys : List Value} (h : w.ownsRow B 5 1 v n ys) (hn : n = xs.length) (he : ys = vU xs) : Row w B v xs := own_eq h hn he
end Go.Proofs.YthagkijplklemaaGreatDoor
end

section
namespace Go.Proofs.YthagkijplklemaaGreatDoor
open Go.ChangeShapes Go.WideShapes Go.ChangeAt Go.RowKit Go.Sc
instance : NeT' 51 5 := ⟨by decide⟩
/-- A call of a function that makes a literal slice of bytes. -/
theorem givesR_lit (w w' : World) (us : List Int) (b : Nat) (r : Value → Value) (hb : b = w'.heap.size) (hw : Below w.heap.size w w') (hl : us.length ≤ 1000000) : ∃ v, Ending.returned (r (.slice (some ⟨b, 0, none⟩) us.length us.length)) = .returned (r v) ∧ (w'.alloc (.cells (us.map (Value.int .u8)).toArray 5)).ownsRow w.heap.size 5 1 v us.length (vU us) ∧ Below w.heap.size w (w'.alloc (.cells (us.map (Value.int .u8)).toArray 5)) := by
  subst hb
  exact ⟨_, rfl, own_lit w' w.heap.size us hw.size hl, hw.alloc hw.size _⟩
theorem rtwo_any (x : Int) (hx : 0 ≤ x) (hx2 : x ≤ 9223372036854775807) (w : World) : GivesR 119 #[.int .i64 x] w (fun v => v) (wideB x) := by
  unfold GivesR
  go_enter Tryz.func119, Tryz.ntmps119
  go_wp2_with fail
  go_ret
  have h := givesR_lit w w [x / 256 % 256, x % 256] w.heap.size (fun v => v) rfl (Below.refl _ _) (by simp)
  rw [show wideB x = [x / 256 % 256, x % 256] from rfl]
  exact h
theorem rref_w (r : Rf) (w : World) : GivesR 115 #[r.v] w (fun v => v) (rfB r) := by
  unfold GivesR
  go_enter Tryz.func115, Tryz.ntmps115
  go_wp2_with fail
  go_ret
  have h := givesR_lit w (w.alloc (.cells #[.int .i64 r.p, .int .i64 r.c] 44)) [r.p % 256, r.c % 256] (w.heap.size + 1) (fun v => v) (by simp) END (by simp)
  rw [show rfB r = [r.p % 256, r.c % 256] from rfl]
  exact h
theorem mod_bytes {l : List Int} (h : ∀ x ∈ l, byt x) : l.flatMap (fun n : Int => [n % 256]) = l := by
  induction l with
  | nil => rfl
  | cons x l ih =>
    rw [List.flatMap_cons, ih fun y hy => h y (by simp [hy])]
    have := h x (by simp)
    unfold byt at this
    rw [show x % 256 = x from by omega]
    rfl
theorem rname_any (s : Sl Int) (w : World) (hs : Hid (Bytes w s)) (hl : s.xs.length ≤ 1000000) : GivesR 68 #[s.v] w (fun v => v) (listB (fun n : Int => [n % 256]) s.xs) := by
  have hm := mod_bytes hs.out.range
  obtain ⟨a, c, xs⟩ := s
  have hle := hs.out.le
  have hmx := hs.out.max
  simp only at hle hmx hl hm
  show GivesR _ #[.slice a xs.length c] _ _ _
  obtain ⟨B, hB⟩ : ∃ B, B = w.heap.size := ⟨_, rfl⟩
  haveI : LeW B w := ⟨by omega⟩
  have hBw : B ≤ w.heap.size := by omega
  have hE : Hid (listB (fun n : Int => [n % 256]) xs = [(xs.length : Int) % 256] ++ xs) := by
    have : listB (fun n : Int => [n % 256]) xs = [(xs.length : Int) % 256] ++ xs := by unfold listB; rw [hm]; rfl
    exact this
  have ho := hid (own_lit w B [(xs.length : Int) % 256] hBw (by simp))
  unfold GivesR
  rw [← hB, hE.out]
  clear hB hm hE
  go_enter Tryz.func68, Tryz.ntmps68
  go_wp2_with (first | (at_builtin; refine wpList_apB _ rfl _ _ rfl B _ [(xs.length : Int) % 256] rfl ho a c xs (hid (hs.out.mono END)) rfl (by simp; omega) LeW.le ?_; intro v' y hy) | fail)
  go_ret
  exact ⟨_, rfl, hy.out, (Below.trans (show Below B w (w.alloc _) from Below.alloc (Below.refl _ _) hBw _) (y.gr.below LeW.le))⟩
set_option maxHeartbeats 1000000 in
theorem rnumbers_any (s : Sl Int) (w : World) (hs : Hid (s.Ok eInt 1 w)) (hl : s.xs.length ≤ 1000000) : GivesR 116 #[s.v] w (fun v => v) (listB byteB s.xs) := by
  obtain ⟨a, c, xs⟩ := s
  have hle := hs.out.le
  have hmx := hs.out.max
  simp only at hle hmx hl
  show GivesR _ #[.slice a xs.length c] _ _ _
  obtain ⟨B, hB⟩ : ∃ B, B = w.heap.size := ⟨_, rfl⟩
  haveI : LeW B w := ⟨by omega⟩
  have hBw : B ≤ w.heap.size := by omega
  have HB := hid hB
  have ho := own_lit w B [(xs.length : Int) % 256] hBw (by simp)
  unfold GivesR
  rw [← hB]
  clear hB
  go_enter Tryz.func116, Tryz.ntmps116
  go_wp2_with fail
  go_loopw [3, 4] (fun o i wr => ∃ (k : Nat) (g : Gx 5 B w), k ≤ xs.length ∧ i = .int .i64 k ∧ wr = g.val ∧ Row g.val B o ([(xs.length : Int) % 256] ++ (xs.take k).flatMap byteB)) (fun _ i _ => xs.length - (intOf i).toNat)
  case atStart => exact ⟨0, ⟨w.alloc (.cells #[.int .u8 ((xs.length : Int) % 256)] 5), Gr.refl.alloc _⟩, Nat.zero_le _, rfl, rfl, Row.eq ho (by simp) (by simp)⟩
  case round =>
    obtain ⟨k, g, hk, rfl, rfl, hr⟩ := hrel
    by_cases hlt : k < xs.length
    · obtain ⟨y, hy⟩ := getElem?_of_lt hlt
      obtain ⟨hok, b, off, hba, hbl, hc⟩ := hs.out.at_ k y hy
      simp only at hba
      subst hba
      haveI : Lt b B := ⟨by rw [HB.out]; exact hbl⟩
      have h0 : g.val.cell? ⟨b, off + k, none⟩ = some (.int .i64 y) := (Gx.cell g b (off + k)).trans (by have := hc 0 _ rfl; simpa using this)
      have hsp : Hid ((xs.take (k + 1)).flatMap byteB = (xs.take k).flatMap byteB ++ [y % 256]) := hid (by rw [List.take_add_one, hy]; simp [byteB])
      have hpl : ([(xs.length : Int) % 256] ++ (xs.take k).flatMap byteB).length ≤ 1000002 := by
        have := flatMap_le (F := byteB) (m := 1) (fun x => by simp [byteB]) (xs.take k)
        simp only [List.length_append, List.length_singleton]
        rw [List.length_take] at this
        omega
      obtain ⟨pre, hpre⟩ : ∃ p, p = [(xs.length : Int) % 256] ++ (xs.take k).flatMap byteB := ⟨_, rfl⟩
      rw [← hpre] at hr hpl
      have HP := hid hpre
      have HO : Hid (g.val.ownsRow B 5 1 u3 pre.length (vU pre)) := hid hr
      haveI : InW b w := ⟨hbl⟩
      clear hc hy hpre hr
      have hk1 : (0 : Int) ≤ (k : Int) := by omega
      have hk2 : (k : Int) < (xs.length : Int) := by omega
      go_wp2_with (first | (at_builtin; refine wpList_appN g.val rfl _ _ 22 rfl B 5 (.int .u8 0) 1 1 Tryz.underlying22 infU8 rfl (by decide) u3 pre.length (vU pre) rfl HO #[.int .u8 (y % 256)] _ 1 1 rfl rfl (by intro q hq; simp at hq; subst hq; rfl) (by unfold maxLen; omega) (by omega) LeW.le ?_; intro v' z hz) | fail)
      have hR : Row z.val B v' ([(xs.length : Int) % 256] ++ (xs.take (k + 1)).flatMap byteB) := Row.eq hz.out (by rw [hsp.out, HP.out]; simp) (by rw [hsp.out, HP.out]; simp)
      first
        | exact ⟨⟨k + 1, ⟨z.val, (by with_reducible repeat' (first | exact Gr.refl | exact Hid.out (by assumption) | refine Gr.alloc ?_ _ | refine gr_ext _ ?_ | refine gr_gx _ ?_ | refine Gr.drew ?_))⟩, by omega, by go_num, rfl, hR⟩, by simp [intOf]; omega⟩
        | exact ⟨⟨k + 1, by omega, by go_num, ⟨z.val, (by with_reducible repeat' (first | exact Gr.refl | exact Hid.out (by assumption) | refine Gr.alloc ?_ _ | refine gr_ext _ ?_ | refine gr_gx _ ?_ | refine Gr.drew ?_))⟩, rfl, hR⟩, by simp [intOf]; omega⟩
    · obtain rfl : k = xs.length := by omega
      rw [List.take_length] at hr
      go_wp2_with fail
      go_ret
      exact ⟨_, rfl, hr, g.gr.below hBw⟩
theorem typB_byt (t : Ty) : ∀ x ∈ typB t, byt x := by
  intro x hx
  unfold typB at hx
  unfold byt
  split at hx
  · simp only [List.mem_cons, List.not_mem_nil, or_false] at hx
    omega
  · simp only [List.mem_cons, List.not_mem_nil, or_false] at hx
    omega
theorem rfB_byt (r : Rf) : ∀ x ∈ rfB r, byt x := by
  intro x hx
  have hx : x ∈ [r.p % 256, r.c % 256] := hx
  simp only [List.mem_cons, List.not_mem_nil, or_false] at hx
  unfold byt
  omega
set_option maxRecDepth 20000 in
set_option maxHeartbeats 1000000 in
theorem rone_any (t : Ty) (w : World) : GivesR 117 #[t.v] w (fun v => v) (typB t) := by
  obtain ⟨k, r⟩ := t
  by_cases h5 : k = 5
  · subst h5
    have hE : typB ⟨5, r⟩ = [5] ++ rfB r := rfl
    have hRf : Hid (∀ W : World, Calls Tryz.prog 115 #[r.v] W fun e w' => ∃ (a : Option Addr) (c : Nat) (x : Ext W), e = .returned (.slice a 2 c) ∧ w' = x.val ∧ Hid (x.val.ownsRow W.heap.size 5 1 (.slice a 2 c) (rfB r).length (vU (rfB r))) ∧ Hid (Bytes x.val ⟨a, c, rfB r⟩)) := fun W => (rref_w r W).go (rfB_byt r) 2 rfl
    obtain ⟨B, hB⟩ : ∃ B, B = w.heap.size := ⟨_, rfl⟩
    have hBw : B ≤ w.heap.size := by omega
    haveI : LeW B w := ⟨hBw⟩
    unfold GivesR
    rw [hE, ← hB]
    clear hB hE
    obtain ⟨l, hl⟩ : ∃ l, l = rfB r := ⟨_, rfl⟩
    have hl2 : l.length = 2 := by rw [hl]; rfl
    rw [← hl] at hRf ⊢
    clear hl
    have hO : Hid (∀ (W : World) (b : Nat), b = W.heap.size → B ≤ W.heap.size → (W.alloc (.cells #[.int .u8 (IntKind.u8.wrap 5)] 5)).ownsRow B 5 1 (.slice (some ⟨b, 0, none⟩) 1 1) ([5] : List Int).length (vU [5])) := fun W b hb h => by subst hb; exact own_lit W B [5] h (by simp)
    go_enter Tryz.func117, Tryz.ntmps117
    go_wp2_with fail
    have e0 : (w.alloc (.cells #[.int .i64 5, .int .i64 r.p, .int .i64 r.c] 51)).cell? ⟨w.heap.size, 0, none⟩ = some (.int .i64 5) := by simp
    have e1 : (w.alloc (.cells #[.int .i64 5, .int .i64 r.p, .int .i64 r.c] 51)).cell? ⟨w.heap.size, 1, none⟩ = some (.int .i64 r.p) := by simp
    have e2 : (w.alloc (.cells #[.int .i64 5, .int .i64 r.p, .int .i64 r.c] 51)).cell? ⟨w.heap.size, 2, none⟩ = some (.int .i64 r.c) := by simp
    go_region_held3 (fun w' => w'.cell? ⟨w.heap.size, 0, none⟩ = some (.int .i64 5) ∧ w'.cell? ⟨w.heap.size, 1, none⟩ = some (.int .i64 r.p) ∧ w'.cell? ⟨w.heap.size, 2, none⟩ = some (.int .i64 r.c)) (first | exact ⟨e0, e1, e2⟩ | (go_keep; done) | ((try dsimp only); refine ⟨?_, ?_, ?_⟩ <;> first | (simp [Ext.cell, alloc_cell_in]; done) | (go_keep; done) | (simp [Gx.cell, Ext.cell, alloc_cell_in]; done) | (simp [Ext.cell, alloc_cell_in]; done))) (first | (go_at_call 115; refine (hRf.out _).mono ?_; rintro e w' ⟨ra, rc, x, rfl, rfl, -, hrb⟩) | (refine step_apB x.val (by rfl) _ _ (by rfl) B (.slice (some ⟨w.heap.size + 1, 0, none⟩) 1 1) [5] (by rfl) (hid (own_ext x (own_drew (hO.out _ _ (by simp) LeW.le)))) ra rc l hrb (by rw [hl2]; rfl) (by simp; omega) LeW.le ?_; intro v' z hz) | (refine step_apB (x.val.alloc (.cells #[.int .u8 (IntKind.u8.wrap 5)] 5)) (by rfl) _ _ (by rfl) B (.slice (some ⟨x.val.heap.size, 0, none⟩) 1 1) [5] (by rfl) (hid (hO.out _ _ rfl LeW.le)) ra rc l (hid (hrb.out.mono END)) (by rw [hl2]; rfl) (by simp; omega) LeW.le ?_; intro v' z hz) | fail)
    all_goals
      go_wp2_with fail
      go_ret
      exact ⟨_, rfl, hz.out, Below.trans (show Below B w _ from ENDX) (z.gr.below LeW.le)⟩
  · have hE : typB ⟨k, r⟩ = [k % 256] := by unfold typB; simp only; rw [if_neg h5]
    unfold GivesR
    rw [hE]
    go_enter Tryz.func117, Tryz.ntmps117
    go_wp2_with fail
    go_ret
    exact givesR_lit w (w.alloc (.cells #[.int .i64 k, .int .i64 r.p, .int .i64 r.c] 51)) [k % 256] (w.heap.size + 1) (fun v => v) (by simp) END (by simp)
set_option maxHeartbeats 1000000 in
theorem rtypes_any (s : Sl Ty) (w : World) (hs : Hid (s.Ok eTy 3 w)) (hl : s.xs.length ≤ 1000000) : GivesR 71 #[s.v] w (fun v => v) (listB typB s.xs) := by
  obtain ⟨a, c, xs⟩ := s
  have hle := hs.out.le
  have hmx := hs.out.max
  simp only at hle hmx hl
  show GivesR _ #[.slice a xs.length c] _ _ _
  obtain ⟨B, hB⟩ : ∃ B, B = w.heap.size := ⟨_, rfl⟩
  haveI : LeW B w := ⟨by omega⟩
  have hBw : B ≤ w.heap.size := by omega
  have HB := hid hB
  have ho := own_lit w B [(xs.length : Int) % 256] hBw (by simp)
  unfold GivesR
  rw [← hB]
  clear hB
  go_enter Tryz.func71, Tryz.ntmps71
  go_wp2_with fail
  go_loopw [3, 4] (fun o i wr => ∃ (k : Nat) (g : Gx 5 B w), k ≤ xs.length ∧ i = .int .i64 k ∧ wr = g.val ∧ Row g.val B o ([(xs.length : Int) % 256] ++ (xs.take k).flatMap typB)) (fun _ i _ => xs.length - (intOf i).toNat)
  case atStart => exact ⟨0, ⟨w.alloc (.cells #[.int .u8 ((xs.length : Int) % 256)] 5), Gr.refl.alloc _⟩, Nat.zero_le _, rfl, rfl, Row.eq ho (by simp) (by simp)⟩
  case round =>
    obtain ⟨k, g, hk, rfl, rfl, hr⟩ := hrel
    by_cases hlt : k < xs.length
    · obtain ⟨y, hy⟩ := getElem?_of_lt hlt
      obtain ⟨hok, b, off, hba, hbl, hc⟩ := hs.out.at_ k y hy
      simp only at hba
      subst hba
      haveI : Lt b B := ⟨by rw [HB.out]; exact hbl⟩
      have h0 : g.val.cell? ⟨b, off + k * 3, none⟩ = some (.int .i64 y.k) := (Gx.cell g b (off + k * 3)).trans (by have := hc 0 _ rfl; simpa using this)
      have h1 : g.val.cell? ⟨b, off + k * 3 + 1, none⟩ = some (.int .i64 y.c.p) := (Gx.cell g b (off + k * 3 + 1)).trans (hc 1 _ rfl)
      have h2 : g.val.cell? ⟨b, off + k * 3 + 2, none⟩ = some (.int .i64 y.c.c) := (Gx.cell g b (off + k * 3 + 2)).trans (hc 2 _ rfl)
      have hsp : Hid ((xs.take (k + 1)).flatMap typB = (xs.take k).flatMap typB ++ typB y) := hid (by rw [List.take_add_one, hy]; simp)
      have hpl : ([(xs.length : Int) % 256] ++ (xs.take k).flatMap typB).length ≤ 3000002 := by
        have := flatMap_le (F := typB) (m := 3) typB_le (xs.take k)
        simp only [List.length_append, List.length_singleton]
        rw [List.length_take] at this
        omega
      obtain ⟨pre, hpre⟩ : ∃ p, p = [(xs.length : Int) % 256] ++ (xs.take k).flatMap typB := ⟨_, rfl⟩
      rw [← hpre] at hr hpl
      have HP := hid hpre
      have HO : Hid (g.val.ownsRow B 5 1 u3 pre.length (vU pre)) := hid hr
      haveI : InW b w := ⟨hbl⟩
      clear hc hy hpre hr
      have hk1 : (0 : Int) ≤ (k : Int) := by omega
      have hk2 : (k : Int) < (xs.length : Int) := by omega
      obtain ⟨tb, htb⟩ : ∃ l, l = typB y := ⟨_, rfl⟩
      have hT : Hid (∀ W : World, Calls Tryz.prog 117 #[y.v] W fun e w' => ∃ (a : Option Addr) (c : Nat) (x : Ext W), e = .returned (.slice a tb.length c) ∧ w' = x.val ∧ Hid (x.val.ownsRow W.heap.size 5 1 (.slice a tb.length c) tb.length (vU tb)) ∧ Hid (Bytes x.val ⟨a, c, tb⟩)) := fun W => by rw [htb]; exact (rone_any y W).go (typB_byt y) _ rfl
      have htl : tb.length ≤ 3 := by rw [htb]; exact typB_le y
      rw [← htb] at hsp
      clear htb
      go_wp2_with (first | (go_at_call 117; refine (hT.out _).mono ?_; rintro e w' ⟨ra, rc, x, rfl, rfl, -, hrb⟩) | (at_builtin; refine wpList_apB x.val rfl _ _ rfl B u3 pre rfl (hid (own_ext x HO.out)) ra rc tb hrb rfl (by omega) LeW.le ?_; intro v' z hz) | fail)
      have hR : Row z.val B v' ([(xs.length : Int) % 256] ++ (xs.take (k + 1)).flatMap typB) := Row.eq hz.out (by rw [hsp.out, HP.out]; simp) (by rw [hsp.out, HP.out]; simp)
      first
        | exact ⟨⟨k + 1, ⟨z.val, (by with_reducible repeat' (first | exact Gr.refl | exact Hid.out (by assumption) | refine Gr.alloc ?_ _ | refine gr_ext _ ?_ | refine gr_gx _ ?_ | refine Gr.drew ?_))⟩, by omega, by go_num, rfl, hR⟩, by simp [intOf]; omega⟩
        | exact ⟨⟨k + 1, by omega, by go_num, ⟨z.val, (by with_reducible repeat' (first | exact Gr.refl | exact Hid.out (by assumption) | refine Gr.alloc ?_ _ | refine gr_ext _ ?_ | refine gr_gx _ ?_ | refine Gr.drew ?_))⟩, rfl, hR⟩, by simp [intOf]; omega⟩
    · obtain rfl : k = xs.length := by omega
      rw [List.take_length] at hr
      go_wp2_with fail
      go_ret
      exact ⟨_, rfl, hr, g.gr.below hBw⟩
end Go.Proofs.YthagkijplklemaaGreatDoor
end

section
namespace Go.Proofs.YthagkijplklemaaGreatDoor
open Go.ChangeShapes Go.WideShapes Go.ChangeAt Go.RowKit Go.Sc
def widL (f : Int) : Int := if f = 0 then 0 else if f = 1 then 4 else 1
theorem rwidth_any (f : Int) (w : World) : Gives Tryz.prog 203 #[.int .i64 f] w (.int .i64 (widL f)) := by
  unfold Gives
  go_enter Tryz.func203, Tryz.ntmps203
  go_wp2_with fail
  all_goals
    go_ret
    exact ⟨ret_int (by unfold widL; grind), END⟩
theorem opB_byt (f n : Int) : ∀ x ∈ opB f n, byt x := by
  intro x hx
  unfold opB at hx
  unfold byt
  split at hx
  · simp at hx
  · split at hx
    · simp only [List.mem_cons, List.not_mem_nil, or_false] at hx
      omega
    · simp only [List.mem_cons, List.not_mem_nil, or_false] at hx
      omega
set_option maxHeartbeats 1000000 in
theorem rnumber27_any (f n : Int) (hn : i64ok n) (w : World) : GivesR 216 #[.int .i64 n, .int .i64 (widL f)] w (fun v => v) (opB f n) := by
  obtain ⟨n0, n1⟩ := hn
  unfold GivesR
  by_cases h0 : f = 0
  · subst h0
    show Calls _ _ #[_, .int .i64 0] _ _
    rw [show opB 0 n = [] from rfl]
    go_enter Tryz.func216, Tryz.ntmps216
    go_wp2_with fail
    go_ret
    exact ⟨_, rfl, own_nil _ _ _ _, END⟩
  · by_cases h1 : f = 1
    · subst h1
      show Calls _ _ #[_, .int .i64 4] _ _
      obtain ⟨us, hus⟩ : ∃ us : List Int, us = [n % 4294967296 / 16777216, n % 4294967296 / 65536 % 256, n % 4294967296 / 256 % 256, n % 256] := ⟨_, rfl⟩
      have hE : opB 1 n = us := by
        rw [opB1, hus]
        rw [show n / 16777216 % 256 = n % 4294967296 / 16777216 from by omega, show n / 65536 % 256 = n % 4294967296 / 65536 % 256 from by omega, show n / 256 % 256 = n % 4294967296 / 256 % 256 from by omega]
      have HU := hid hus
      rw [hE]
      clear hE hus
      go_enter Tryz.func216, Tryz.ntmps216
      go_wp2_with fail
      go_ret
      rw [HU.out]
      exact givesR_lit w w [n % 4294967296 / 16777216, n % 4294967296 / 65536 % 256, n % 4294967296 / 256 % 256, n % 256] w.heap.size (fun v => v) rfl (Below.refl _ _) (by simp)
    · rw [opBe h0 h1, show widL f = 1 from by unfold widL; rw [if_neg h0, if_neg h1]]
      go_enter Tryz.func216, Tryz.ntmps216
      go_wp2_with fail
      go_ret
      exact givesR_lit w w [n % 256] w.heap.size (fun v => v) rfl (Below.refl _ _) (by simp)
set_option maxRecDepth 20000 in
set_option maxHeartbeats 4000000 in
theorem rone27_any (i : In) (hi : i64ok i.a ∧ i64ok i.b ∧ i64ok i.c) (w : World) : GivesR 178 #[i.v] w (fun v => v) (insB i) := by
  obtain ⟨A, hA⟩ : ∃ A, A = (frm i.op).1 := ⟨_, rfl⟩
  obtain ⟨D, hD⟩ : ∃ A, A = (frm i.op).2.1 := ⟨_, rfl⟩
  obtain ⟨C, hC⟩ : ∃ A, A = (frm i.op).2.2 := ⟨_, rfl⟩
  have hF : Hid (∀ W : World, Gives Tryz.prog 176 #[.int .i64 i.op] W (.tuple #[.int .i64 A, .int .i64 D, .int .i64 C])) := fun W => by rw [hA, hD, hC]; exact forms_any i.op W
  have hE : insB i = [i.op % 256] ++ opB A i.a ++ opB D i.b ++ opB C i.c := by rw [hA, hD, hC]; rfl
  have la := opB_le A i.a
  have lb := opB_le D i.b
  have lc := opB_le C i.c
  have nA : Hid (∀ W : World, Calls Tryz.prog 216 #[.int .i64 i.a, .int .i64 (widL A)] W fun e w' => ∃ (a : Option Addr) (c : Nat) (x : Ext W), e = .returned (.slice a (opB A i.a).length c) ∧ w' = x.val ∧ Hid (x.val.ownsRow W.heap.size 5 1 (.slice a (opB A i.a).length c) (opB A i.a).length (vU (opB A i.a))) ∧ Hid (Bytes x.val ⟨a, c, opB A i.a⟩)) := fun W => (rnumber27_any A i.a hi.1 W).go (opB_byt _ _) _ rfl
  have nD : Hid (∀ W : World, Calls Tryz.prog 216 #[.int .i64 i.b, .int .i64 (widL D)] W fun e w' => ∃ (a : Option Addr) (c : Nat) (x : Ext W), e = .returned (.slice a (opB D i.b).length c) ∧ w' = x.val ∧ Hid (x.val.ownsRow W.heap.size 5 1 (.slice a (opB D i.b).length c) (opB D i.b).length (vU (opB D i.b))) ∧ Hid (Bytes x.val ⟨a, c, opB D i.b⟩)) := fun W => (rnumber27_any D i.b hi.2.1 W).go (opB_byt _ _) _ rfl
  have nC : Hid (∀ W : World, Calls Tryz.prog 216 #[.int .i64 i.c, .int .i64 (widL C)] W fun e w' => ∃ (a : Option Addr) (c : Nat) (x : Ext W), e = .returned (.slice a (opB C i.c).length c) ∧ w' = x.val ∧ Hid (x.val.ownsRow W.heap.size 5 1 (.slice a (opB C i.c).length c) (opB C i.c).length (vU (opB C i.c))) ∧ Hid (Bytes x.val ⟨a, c, opB C i.c⟩)) := fun W => (rnumber27_any C i.c hi.2.2 W).go (opB_byt _ _) _ rfl
  generalize opB A i.a = x1 at *
  generalize opB D i.b = x2 at *
  generalize opB C i.c = x3 at *
  obtain ⟨B, hB⟩ : ∃ B, B = w.heap.size := ⟨_, rfl⟩
  have hBw : B ≤ w.heap.size := by omega
  haveI : LeW B w := ⟨hBw⟩
  unfold GivesR
  rw [hE, ← hB]
  clear hE hA hD hC hi hB
  go_enter Tryz.func178, Tryz.ntmps178
  go_wp2_with (first | (go_at_call 176; refine (hF.out _).go.mono ?_; rintro e w' ⟨rfl, xw, rfl⟩) | fail)
  have ho := hid (own_lit xw.val B [i.op % 256] LeW.le (by simp))
  have ee : (xw.val.alloc (.cells #[.int .u8 (i.op % 256)] 5)).cell? ⟨w.heap.size, 1, none⟩ = some (.int .i64 i.a) := by first | (simp [Ext.cell, alloc_cell_in]; done) | (simp [Gx.cell, Ext.cell, alloc_cell_in]; done)
  go_region_held3 (fun w' => w'.cell? ⟨w.heap.size, 1, none⟩ = some (.int .i64 i.a)) (first | exact ee | (go_keep; done) | (simp [Gx.cell, Ext.cell, alloc_cell_in]; done)) (first | (go_at_call 203; refine (rwidth_any A _).go.mono ?_; rintro e w' ⟨rfl, y, rfl⟩) | (go_at_call 216; refine (nA.out _).mono ?_; rintro e w' ⟨ra, rc, x, rfl, rfl, -, hrb⟩) | (refine step_apB x.val (by rfl) _ _ (by rfl) B (.slice (some ⟨xw.val.heap.size, 0, none⟩) 1 1) ([i.op % 256]) (by rfl) (hid (own_ext x (own_ext y (own_drew (ho).out)))) ra rc x1 hrb (by rfl) (by simp; omega) LeW.le ?_; intro v1 z1 hz1) | fail)
  clear ee
  go_wp2_with fail
  have ee : (z1.val).cell? ⟨w.heap.size, 2, none⟩ = some (.int .i64 i.b) := by first | (simp [Ext.cell, alloc_cell_in]; done) | (simp [Gx.cell, Ext.cell, alloc_cell_in]; done)
  go_region_held3 (fun w' => w'.cell? ⟨w.heap.size, 2, none⟩ = some (.int .i64 i.b)) (first | exact ee | (go_keep; done) | (simp [Gx.cell, Ext.cell, alloc_cell_in]; done)) (first | (go_at_call 203; refine (rwidth_any D _).go.mono ?_; rintro e w' ⟨rfl, y, rfl⟩) | (go_at_call 216; refine (nD.out _).mono ?_; rintro e w' ⟨ra, rc, x, rfl, rfl, -, hrb⟩) | (refine step_apB x.val (by rfl) _ _ (by rfl) B v1 ([i.op % 256] ++ x1) (by rfl) (hid (own_ext x (own_ext y (own_drew (hz1).out)))) ra rc x2 hrb (by rfl) (by simp; omega) LeW.le ?_; intro v2 z2 hz2) | fail)
  clear ee
  go_wp2_with fail
  have ee : (z2.val).cell? ⟨w.heap.size, 3, none⟩ = some (.int .i64 i.c) := by first | (simp [Ext.cell, alloc_cell_in]; done) | (simp [Gx.cell, Ext.cell, alloc_cell_in]; done)
  go_region_held3 (fun w' => w'.cell? ⟨w.heap.size, 3, none⟩ = some (.int .i64 i.c)) (first | exact ee | (go_keep; done) | (simp [Gx.cell, Ext.cell, alloc_cell_in]; done)) (first | (go_at_call 203; refine (rwidth_any C _).go.mono ?_; rintro e w' ⟨rfl, y, rfl⟩) | (go_at_call 216; refine (nC.out _).mono ?_; rintro e w' ⟨ra, rc, x, rfl, rfl, -, hrb⟩) | (refine step_apB x.val (by rfl) _ _ (by rfl) B v2 ([i.op % 256] ++ x1 ++ x2) (by rfl) (hid (own_ext x (own_ext y (own_drew (hz2).out)))) ra rc x3 hrb (by rfl) (by simp; omega) LeW.le ?_; intro v3 z3 hz3) | fail)
  clear ee
  go_wp2_with fail
  go_ret
  exact ⟨_, rfl, hz3.out, (by (repeat' (first | (with_reducible exact Below.refl _ _) | (with_reducible exact Nat.le_refl _) | (with_reducible refine Below.alloc ?_ ?_ _) | (with_reducible refine below_ext _ ?_ ?_) | (with_reducible refine below_gx _ ?_ ?_ ?_) | (with_reducible refine Below.drew ?_) | (exact LeW.le))); first | done | fail)⟩
end Go.Proofs.YthagkijplklemaaGreatDoor
end

section
namespace Go.Proofs.YthagkijplklemaaGreatDoor
open Go.ChangeShapes Go.WideShapes Go.ChangeAt Go.RowKit Go.Sc
theorem insB_byt (i : In) : ∀ x ∈ insB i, byt x := by
  intro x hx
  unfold insB at hx
  rcases List.mem_append.1 hx with hx | hx
  · rcases List.mem_append.1 hx with hx | hx
    · rcases List.mem_append.1 hx with hx | hx
      · simp only [List.mem_singleton] at hx
        unfold byt
        omega
      · exact opB_byt _ _ x hx
    · exact opB_byt _ _ x hx
  · exact opB_byt _ _ x hx
set_option maxRecDepth 20000 in
set_option maxHeartbeats 2000000 in
theorem rencode27_any (s : Sl In) (w : World) (hs : Hid (s.Ok eIn 4 w)) (hl : s.xs.length ≤ 256) (hok : Hid (∀ i ∈ s.xs, insE i = 0)) : GivesR 118 #[s.v] w (fun v => .tuple #[v, .int .i64 0]) (s.xs.flatMap insB) := by
  obtain ⟨a, c, xs⟩ := s
  have hle := hs.out.le
  have hmx := hs.out.max
  simp only at hle hmx hl
  have hli : (xs.length : Int) ≤ 256 := by omega
  show GivesR _ #[.slice a xs.length c] _ _ _
  obtain ⟨B, hB⟩ : ∃ B, B = w.heap.size := ⟨_, rfl⟩
  haveI : LeW B w := ⟨by omega⟩
  have hBw : B ≤ w.heap.size := by omega
  have HB := hid hB
  unfold GivesR
  rw [← hB]
  clear hB
  go_enter Tryz.func118, Tryz.ntmps118
  go_wp2_with fail
  go_loopw [4] (fun i wr => ∃ (k : Nat) (x : Ext w), k ≤ xs.length ∧ i = .int .i64 k ∧ wr = x.val) (fun i _ => xs.length - (intOf i).toNat)
  case atStart => exact ⟨0, ⟨w, Below.refl _ _⟩, Nat.zero_le _, rfl, rfl⟩
  case round =>
    obtain ⟨k, x, hk, rfl, rfl⟩ := hrel
    by_cases hlt : k < xs.length
    · obtain ⟨y, hy⟩ := getElem?_of_lt hlt
      obtain ⟨hok1, b, off, hba, hbl, hc⟩ := hs.out.at_ k y hy
      simp only at hba
      subst hba
      have h0 := hc 0 _ rfl; have h1 := hc 1 _ rfl; have h2 := hc 2 _ rfl; have h3 := hc 3 _ rfl; simp only [Nat.add_zero] at h0
      haveI : InW b w := ⟨hbl⟩
      have hC : Hid (∀ W : World, Gives Tryz.prog 113 #[y.v] W (.int .i64 0)) := fun W => by
        have := rcheck27_any y W
        rwa [hok.out y (List.mem_of_getElem? hy)] at this
      clear hc hy hok1
      have hk1 : (0 : Int) ≤ (k : Int) := by omega
      have hk2 : (k : Int) < (xs.length : Int) := by omega
      go_wp2_with (first | (go_at_call 113; refine (hC.out _).go.mono ?_; rintro e w' ⟨rfl, xw, rfl⟩) | fail)
      go_roundw
      case rel => exact ⟨k + 1, ⟨_, END⟩, by omega, by go_num, rfl⟩
      case measure => simp [intOf]; omega
    · have hlt2 : ¬ (k : Int) < (xs.length : Int) := by omega
      go_wp2_with fail
      go_loopw [6, 7] (fun o i wr => ∃ (k : Nat) (g : Gx 5 B w), k ≤ xs.length ∧ i = .int .i64 k ∧ wr = g.val ∧ Row g.val B o ((xs.take k).flatMap insB)) (fun _ i _ => xs.length - (intOf i).toNat)
      case atStart => exact ⟨0, ⟨x.val, Gr.of_below x.below⟩, Nat.zero_le _, rfl, rfl, own_nil _ _ _ _⟩
      case round =>
        clear hlt hk hlt2
        obtain ⟨k, g, hk, rfl, rfl, hr⟩ := hrel
        by_cases hlt : k < xs.length
        · obtain ⟨y, hy⟩ := getElem?_of_lt hlt
          obtain ⟨hok1, b, off, hba, hbl, hc⟩ := hs.out.at_ k y hy
          simp only at hba
          subst hba
          haveI : Lt b B := ⟨by rw [HB.out]; exact hbl⟩
          have h0 : g.val.cell? ⟨b, off + k * 4, none⟩ = some (.int .i64 y.op) := (Gx.cell g b (off + k * 4)).trans (by have := hc 0 _ rfl; simpa using this)
          have h1 : g.val.cell? ⟨b, off + k * 4 + 1, none⟩ = some (.int .i64 y.a) := (Gx.cell g b (off + k * 4 + 1)).trans (hc 1 _ rfl)
          have h2 : g.val.cell? ⟨b, off + k * 4 + 2, none⟩ = some (.int .i64 y.b) := (Gx.cell g b (off + k * 4 + 2)).trans (hc 2 _ rfl)
          have h3 : g.val.cell? ⟨b, off + k * 4 + 3, none⟩ = some (.int .i64 y.c) := (Gx.cell g b (off + k * 4 + 3)).trans (hc 3 _ rfl)
          have hsp : Hid ((xs.take (k + 1)).flatMap insB = (xs.take k).flatMap insB ++ insB y) := hid (by rw [List.take_add_one, hy]; simp)
          have hpl : ((xs.take k).flatMap insB).length ≤ 3328 := by
            have := flatMap_le insB_le (xs.take k)
            rw [List.length_take] at this
            omega
          obtain ⟨pre, hpre⟩ : ∃ p, p = (xs.take k).flatMap insB := ⟨_, rfl⟩
          rw [← hpre] at hr hpl
          have HP := hid hpre
          have HO : Hid (g.val.ownsRow B 5 1 u6 pre.length (vU pre)) := hid hr
          obtain ⟨tb, htb⟩ : ∃ l, l = insB y := ⟨_, rfl⟩
          have hT : Hid (∀ W : World, Calls Tryz.prog 178 #[y.v] W fun e w' => ∃ (a : Option Addr) (c : Nat) (x : Ext W), e = .returned (.slice a tb.length c) ∧ w' = x.val ∧ Hid (x.val.ownsRow W.heap.size 5 1 (.slice a tb.length c) tb.length (vU tb)) ∧ Hid (Bytes x.val ⟨a, c, tb⟩)) := fun W => by rw [htb]; exact (rone27_any y hok1.2 W).go (insB_byt y) _ rfl
          have htl : tb.length ≤ 13 := by rw [htb]; exact insB_le y
          rw [← htb] at hsp
          haveI : InW b w := ⟨hbl⟩
          clear hc hy hpre hr htb hok1
          have hk1 : (0 : Int) ≤ (k : Int) := by omega
          have hk2 : (k : Int) < (xs.length : Int) := by omega
          go_wp2_with (first | (go_at_call 178; refine (hT.out _).mono ?_; rintro e w' ⟨ra, rc, x, rfl, rfl, -, hrb⟩) | (at_builtin; refine wpList_apB x.val rfl _ _ rfl B u6 pre rfl (hid (own_ext x HO.out)) ra rc tb hrb rfl (by omega) LeW.le ?_; intro v' z hz) | fail)
          have hR : Row z.val B v' ((xs.take (k + 1)).flatMap insB) := Row.eq hz.out (by rw [hsp.out, HP.out]) (by rw [hsp.out, HP.out])
          first
            | exact ⟨⟨k + 1, ⟨z.val, (by with_reducible repeat' (first | exact Gr.refl | exact Hid.out (by assumption) | refine Gr.alloc ?_ _ | refine gr_ext _ ?_ | refine gr_gx _ ?_ | refine Gr.drew ?_))⟩, by omega, by go_num, rfl, hR⟩, by simp [intOf]; omega⟩
            | exact ⟨⟨k + 1, by omega, by go_num, ⟨z.val, (by with_reducible repeat' (first | exact Gr.refl | exact Hid.out (by assumption) | refine Gr.alloc ?_ _ | refine gr_ext _ ?_ | refine gr_gx _ ?_ | refine Gr.drew ?_))⟩, rfl, hR⟩, by simp [intOf]; omega⟩
        · obtain rfl : k = xs.length := by omega
          rw [List.take_length] at hr
          go_wp2_with fail
          go_returns
          exact ⟨_, rfl, hr, g.gr.below hBw⟩
end Go.Proofs.YthagkijplklemaaGreatDoor
end
