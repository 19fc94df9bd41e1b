/- Rows of bytes that a function of the reference makes and hands back; xor. The reference: Pad, Put. The reference's Hash. -/
import Derived.Test.YthagkijplklemaaGreatDoorM45
import Derived.Test.YthagkijplklemaaGreatDoorM22
import Derived.Deep.Onto
import Derived.Deep.RegionHeld3
section
namespace Go.Proofs.YthagkijplklemaaGreatDoor
open Go.ChangeShapes Go.WideShapes Go.ChangeAt Go.RowKit Go.Sc
/-- The call returns a row of bytes of its own; nothing that was there has turned. -/
def GivesR (f : FuncId) (args : Array Value) (w : World) (r : Value → Value) (xs : List Int) : Prop :=
  Calls Tryz.prog f args w fun e w' => ∃ v, e = .returned (r v) ∧ w'.ownsRow w.heap.size 5 1 v xs.length (vU xs) ∧ Below w.heap.size w w'
theorem own_sl {w : World} {B : Nat} {v : Value} {xs : List Int} (h : w.ownsRow B 5 1 v xs.length (vU xs)) (hb : ∀ x ∈ xs, byt x) : ∃ a c, v = .slice a xs.length c ∧ Bytes w ⟨a, c, xs⟩ ∧ ∀ b o q, a = some ⟨b, o, q⟩ → B ≤ b ∧ b < w.heap.size := by
  rw [vU_cells] at h
  exact sl_of_own h (fun _ _ => rfl) hb
theorem GivesR.go {f : FuncId} {args : Array Value} {w : World} {r : Value → Value} {xs : List Int} (h : GivesR f args w r xs) (hb : ∀ x ∈ xs, byt x) (n : Nat) (hn : xs.length = n) :
    Calls Tryz.prog f args w fun e w' => ∃ (a : Option Addr) (c : Nat) (x : Ext w), e = .returned (r (.slice a n c)) ∧ w' = x.val ∧ Hid (x.val.ownsRow w.heap.size 5 1 (.slice a n c) xs.length (vU xs)) ∧ Hid (Bytes x.val ⟨a, c, xs⟩) :=
  h.mono fun _ w' ⟨v, he, ho, hw⟩ => by
    obtain ⟨a, c, rfl, h1, _⟩ := own_sl ho hb
    subst hn
    exact ⟨a, c, ⟨w', hw⟩, he, rfl, ho, h1⟩
theorem own_base {w : World} {B C : Nat} {v : Value} {n : Nat} {xs : List Value} (h : w.ownsRow B 5 1 v n xs) (hb : C ≤ B) : w.ownsRow C 5 1 v n xs := h.mono hb
theorem own_lit (w : World) (B : Nat) (us : List Int) (hB : B ≤ w.heap.size) (hl : us.length ≤ 1000000) : (w.alloc (.cells (us.map (Value.int .u8)).toArray 5)).ownsRow B 5 1 (.slice (some ⟨w.heap.size, 0, none⟩) us.length us.length) us.length (vU us) :=
  World.ownsRow_lit (base := B) (size := 1) w (us.map (Value.int .u8)).toArray us.length hB (by unfold maxLen; omega) (by simp)
section
variable (w : World) {ops : Array Oper} {rest : List Oper} {o : Oper} {a : Act} {Q : Exit → Act → World → Prop}
/-- Bytes appended to a row of the call's own. -/
theorem wp_apB {K : Act → World → Prop} (s x : Operand) (ho : o.op = .call { callee := .builtin .append, args := #[s, x], argTypes := #[22, 22] })
    (B : Nat) (v : Value) (pre : List Int) (hs : a.eval s = v) (hown : Hid (w.ownsRow B 5 1 v pre.length (vU pre))) (A : Option Addr) (C : Nat) (xs : List Int) (hb : Hid (Bytes w ⟨A, C, xs⟩)) (hx : a.eval x = .slice A xs.length C)
    (hl : pre.length + xs.length ≤ 1099511627776) (hbase : B ≤ w.heap.size)
    (h : ∀ (v' : Value) (y : Gx 5 B w), Hid (y.val.ownsRow B 5 1 v' (pre ++ xs).length (vU (pre ++ xs))) → K (a.put o.dst v') y.val) : o.wp Tryz.prog a w K Q :=
  wp_appS w s x 22 ho B 5 (.int .u8 0) 1 1 Tryz.underlying22 infU8 rfl (by decide) v pre.length (vU pre) hs hown eByte ⟨A, C, xs⟩ hb (fun y _ => ⟨rfl, fun u hu => by simp [eByte] at hu; subst hu; rfl⟩) hx (by unfold maxLen; simp only; omega) (by simp only; omega) hbase
    fun v' w' h1 h2 _ => h v' ⟨w', Gr.of_grown hown.out h2.out⟩ (hid (own_eq h1.out (by simp) (by rw [← vU_cells]; simp)))
theorem wpList_apB (hgd : o.guard = none) (s x : Operand) (ho : o.op = .call { callee := .builtin .append, args := #[s, x], argTypes := #[22, 22] })
    (B : Nat) (v : Value) (pre : List Int) (hs : a.eval s = v) (hown : Hid (w.ownsRow B 5 1 v pre.length (vU pre))) (A : Option Addr) (C : Nat) (xs : List Int) (hb : Hid (Bytes w ⟨A, C, xs⟩)) (hx : a.eval x = .slice A xs.length C)
    (hl : pre.length + xs.length ≤ 1099511627776) (hbase : B ≤ w.heap.size)
    (h : ∀ (v' : Value) (y : Gx 5 B w), Hid (y.val.ownsRow B 5 1 v' (pre ++ xs).length (vU (pre ++ xs))) → wpList Tryz.prog ops Q rest (a.put o.dst v') y.val) : wpList Tryz.prog ops Q (o :: rest) a w :=
  wpList_plain hgd fun _ hK => wp_apB w s x ho B v pre hs hown A C xs hb hx hl hbase fun v' y hy => hK _ _ (h v' y hy)
theorem step_apB {K : Act → World → Prop} {E : Prop} (hgd : o.guard = none) (s x : Operand) (ho : o.op = .call { callee := .builtin .append, args := #[s, x], argTypes := #[22, 22] })
    (B : Nat) (v : Value) (pre : List Int) (hs : a.eval s = v) (hown : Hid (w.ownsRow B 5 1 v pre.length (vU pre))) (A : Option Addr) (C : Nat) (xs : List Int) (hb : Hid (Bytes w ⟨A, C, xs⟩)) (hx : a.eval x = .slice A xs.length C)
    (hl : pre.length + xs.length ≤ 1099511627776) (hbase : B ≤ w.heap.size)
    (h : ∀ (v' : Value) (y : Gx 5 B w), Hid (y.val.ownsRow B 5 1 v' (pre ++ xs).length (vU (pre ++ xs))) → K (a.put o.dst v') y.val) : if Region.wanted o (yielded ops a.tmps) = true then Oper.wp Tryz.prog o a w K Q else E := by
  have hw : Region.wanted o (yielded ops a.tmps) = true := by simp [Region.wanted, hgd]
  rw [if_pos hw]
  exact wp_apB w s x ho B v pre hs hown A C xs hb hx hl hbase h
end
set_option maxRecDepth 20000 in
set_option maxHeartbeats 1000000 in
theorem rxor_any (s t : Sl Int) (hsl : s.xs.length = 8) (htl : t.xs.length = 8) (w : World) (hs : Hid (Bytes w s)) (ht : Hid (Bytes w t)) :
    GivesR 97 #[s.v, t.v] w (fun v => v) (xorL s.xs t.xs) := by
  obtain ⟨a, c, xs⟩ := s
  obtain ⟨a', c', ys⟩ := t
  simp only at hsl htl
  have hle := hs.out.le
  have hmx := hs.out.max
  have hle' := ht.out.le
  have hmx' := ht.out.max
  simp only [hsl, htl] at hle hmx hle' hmx'
  show GivesR _ #[.slice a xs.length c, .slice a' ys.length c'] _ _ _
  rw [hsl, htl]
  obtain ⟨B, hB⟩ : ∃ B, B = w.heap.size := ⟨_, rfl⟩
  haveI : LeW B w := ⟨by omega⟩
  have hBw : B ≤ w.heap.size := by omega
  have HB := hid hB
  unfold GivesR
  rw [← hB]
  clear hB
  go_enter Tryz.func97, Tryz.ntmps97
  go_wp2_with fail
  go_loopw [5, 6] (fun o i wr => ∃ (k : Nat) (g : Gx 5 B w), k ≤ 8 ∧ i = .int .i64 k ∧ wr = g.val ∧ Hid (g.val.ownsRow B 5 1 o ((xorL xs ys).take k).length (vU ((xorL xs ys).take k)))) (fun _ i _ => 8 - (intOf i).toNat)
  case atStart => exact ⟨0, ⟨_, .refl⟩, Nat.zero_le _, rfl, rfl, hid (own_nil _ _ _ _)⟩
  case round =>
    obtain ⟨k, g, hk, rfl, rfl, ho⟩ := hrel
    have hlen : (xorL xs ys).length = 8 := (xorL_len (by omega)).trans hsl
    obtain hlt | rfl : k < 8 ∨ k = 8 := by omega
    · obtain ⟨x, hx⟩ := getElem?_of_lt (show k < xs.length by omega)
      obtain ⟨y, hy⟩ := getElem?_of_lt (show k < ys.length by omega)
      obtain ⟨⟨lx, ux⟩, b, off, hba, hbl, hcx⟩ := hs.out.at_ k x hx
      obtain ⟨⟨ly, uy⟩, b', off', hba', hbl', hcy⟩ := ht.out.at_ k y hy
      simp only at hba hba'
      subst hba
      subst hba'
      haveI : Lt b B := ⟨by rw [HB.out]; exact hbl⟩
      haveI : Lt b' B := ⟨by rw [HB.out]; exact hbl'⟩
      have cx : g.val.cell? ⟨b, off + k, none⟩ = some (.int .u8 x) := (Gx.cell g b (off + k)).trans (by have := hcx 0 _ rfl; simpa using this)
      have cy : g.val.cell? ⟨b', off' + k, none⟩ = some (.int .u8 y) := (Gx.cell g b' (off' + k)).trans (by have := hcy 0 _ rfl; simpa using this)
      have hz := xorL_at hx hy
      have hsp : Hid ((xorL xs ys).take (k + 1) = (xorL xs ys).take k ++ [bits .xor .u8 x y]) := hid (by rw [List.take_add_one, hz]; rfl)
      have hpl : ((xorL xs ys).take k).length = k := by rw [List.length_take]; omega
      obtain ⟨pre, hpre⟩ : ∃ p, p = (xorL xs ys).take k := ⟨_, rfl⟩
      rw [← hpre] at ho hsp hpl
      haveI : InW b w := ⟨hbl⟩
      haveI : InW b' w := ⟨hbl'⟩
      clear hcx hcy hx hy hz hpre hlen
      have hk1 : (0 : Int) ≤ (k : Int) := by omega
      have hk2 : (k : Int) < 8 := by omega
      go_wp2_with fail
      go_region_held3 (fun w' => w'.cell? ⟨b, off + k, none⟩ = some (.int .u8 x) ∧ w'.cell? ⟨b', off' + k, none⟩ = some (.int .u8 y)) (first | exact ⟨cx, cy⟩ | (go_keep) | (refine ⟨?_, ?_⟩ <;> simp [Gx.cell, alloc_cell_in, cx, cy])) ((refine step_appN g.val.drew (by rfl) _ _ 22 (by rfl) B 5 (.int .u8 0) 1 1 Tryz.underlying22 infU8 rfl (by decide) u5 pre.length (vU pre) (by rfl) (hid (by with_reducible repeat' (first | exact Hid.out (by assumption) | refine own_alloc ?_ _ | refine own_ext _ ?_ | refine own_drew ?_))) #[.int .u8 (bits .xor .u8 x y)] _ 1 1 (by rfl) (by rfl) (by intro q hq; simp at hq; subst hq; rfl) (by unfold maxLen; omega) (by omega) LeW.le ?_; intro v' z hz))
      go_wp2_with fail
      go_roundw
      case rel => exact ⟨k + 1, ⟨z.val, (by with_reducible repeat' (first | exact Gr.refl | exact Hid.out (by assumption) | refine Gr.alloc ?_ _ | refine gr_ext _ ?_ | refine gr_gx _ ?_ | refine Gr.drew ?_))⟩, by omega, by go_num, rfl, hid (own_eq hz.out (by rw [hsp.out]; simp) (by rw [hsp.out]; simp))⟩
      case measure => simp [intOf]; omega
    · go_wp2_with fail
      go_ret
      have ho := ho.out
      rw [List.take_of_length_le (by omega)] at ho
      exact ⟨_, rfl, ho, g.gr.below hBw⟩
end Go.Proofs.YthagkijplklemaaGreatDoor
end

section
namespace Go.Proofs.YthagkijplklemaaGreatDoor
open Go.ChangeShapes Go.WideShapes Go.ChangeAt Go.RowKit Go.Sc
def lenOf : Value → Nat
  | .slice _ n _ => n
  | _ => 0
theorem own_sl' {w : World} {B : Nat} {v : Value} {n : Nat} {xs : List Value} (h : w.ownsRow B 5 1 v n xs) : ∃ a c, v = .slice a n c ∧ n ≤ c ∧ c ≤ maxLen := by
  obtain ⟨a, c, h1, h2, h3, _⟩ := own_form h
  exact ⟨a, c, h1, h2, h3⟩
set_option maxRecDepth 20000 in
set_option maxHeartbeats 1000000 in
theorem rpad_any (s : Sl Int) (w : World) (hs : Hid (Bytes w s)) (hl : s.xs.length ≤ 1000000) : GivesR 94 #[s.v, .int .i64 8] w (fun v => .tuple #[v, .int .i64 0]) (padL s.xs) := by
  obtain ⟨a, c, xs⟩ := s
  have hle := hs.out.le
  have hmx := hs.out.max
  simp only at hle hmx hl
  show GivesR _ #[.slice a xs.length c, _] _ _ _
  obtain ⟨B, hB⟩ : ∃ B, B = w.heap.size := ⟨_, rfl⟩
  haveI : LeW B w := ⟨by omega⟩
  have hBw : B ≤ w.heap.size := by omega
  obtain ⟨z, hz⟩ : ∃ z, z = padZ (xs.length + 1) := ⟨_, rfl⟩
  have hz8 : z < 8 ∧ (xs.length + 1 + z) % 8 = 0 := by rw [hz]; unfold padZ; split <;> omega
  have hE : Hid (padL xs = xs ++ [128] ++ List.replicate z 0) := by
    have : padL xs = xs ++ [128] ++ List.replicate z 0 := by rw [hz]; rfl
    exact this
  have ho0 : Hid (∀ W : World, B ≤ W.heap.size → (W.alloc (.cells #[] 5)).ownsRow B 5 1 (.slice (some ⟨W.heap.size, 0, none⟩) 0 0) ([] : List Int).length (vU [])) := fun W h => World.ownsRow_made W #[] 0 h (by decide) rfl
  unfold GivesR
  rw [← hB, hE.out]
  clear hB hz hE
  go_enter Tryz.func94, Tryz.ntmps94
  go_wp2_with (first | (at_builtin; refine wpList_apB _ rfl _ _ rfl B _ [] rfl (hid (ho0.out _ hBw)) a c xs (hid (hs.out.mono (by with_reducible repeat' (first | exact Below.refl _ _ | exact Nat.le_refl _ | refine Below.alloc ?_ ?_ _ | refine below_ext _ ?_ ?_ | refine Below.drew ?_ | refine Below.setCell ?_ ?_ _ | refine le_alloc ?_ | refine Ext.le_size _ ?_ | refine le_drew ?_ | refine le_setCell ?_)))) rfl (by simp; omega) LeW.le ?_; intro v1 y1 hy1) | (at_builtin; refine wpList_appN y1.val rfl _ _ 22 rfl B 5 (.int .u8 0) 1 1 Tryz.underlying22 infU8 rfl (by decide) v1 ([] ++ xs).length (vU ([] ++ xs)) rfl (hid hy1.out) #[.int .u8 128] _ 1 1 rfl rfl (by intro q hq; simp at hq; subst hq; rfl) (by unfold maxLen; simp; omega) (by simp; omega) LeW.le ?_; intro v2 y2 hy2) | fail)
  go_loopw [6] (fun o wr => ∃ (j : Nat) (A : Option Addr) (C : Nat) (g : Gx 5 B w), j ≤ z ∧ o = .slice A (xs.length + 1 + j) C ∧ wr = g.val ∧ Hid (g.val.ownsRow B 5 1 o (xs.length + 1 + j) (vU (xs ++ [128] ++ List.replicate j 0)))) (fun o _ => xs.length + 1 + z - lenOf o)
  case atStart =>
    have h2 : Hid (y2.val.ownsRow B 5 1 v2 (xs.length + 1 + 0) (vU (xs ++ [128] ++ List.replicate 0 0))) := hid (own_eq hy2.out (by simp) (by simp))
    obtain ⟨A, C, e, _⟩ := own_sl' h2.out
    exact ⟨0, A, C, ⟨y2.val, (by with_reducible repeat' (first | exact Gr.refl | exact Hid.out (by assumption) | refine Gr.alloc ?_ _ | refine gr_ext _ ?_ | refine gr_gx _ ?_ | refine Gr.drew ?_))⟩, Nat.zero_le _, e, rfl, h2⟩
  case round =>
    obtain ⟨j, A, C, g, hj, rfl, rfl, ho⟩ := hrel
    obtain ⟨z1, z2⟩ := hz8
    obtain ⟨m, hm⟩ : ∃ m, m = xs.length + 1 + j := ⟨_, rfl⟩
    rw [← hm] at ho ⊢
    have HM := hid hm
    by_cases hlt : j < z
    · have hne : ((m : Int) % 8 != 0) = true := by simp; omega
      have hm2 : m ≤ 1000008 := by omega
      clear hm
      go_wp2_with (first | (at_builtin; refine wpList_appN g.val rfl _ _ 22 rfl B 5 (.int .u8 0) 1 1 Tryz.underlying22 infU8 rfl (by decide) (.slice A m C) m (vU (xs ++ [128] ++ List.replicate j 0)) rfl (hid ho.out) #[.int .u8 0] _ 1 1 rfl rfl (by intro q hq; simp at hq; subst hq; rfl) (by unfold maxLen; omega) (by omega) LeW.le ?_; intro v3 y3 hy3) | fail)
      have h3 : Hid (y3.val.ownsRow B 5 1 v3 (xs.length + 1 + (j + 1)) (vU (xs ++ [128] ++ List.replicate (j + 1) 0))) := hid (own_eq hy3.out (by have := HM.out; omega) (by rw [List.replicate_succ']; simp))
      obtain ⟨A3, C3, e3, _⟩ := own_sl' h3.out
      subst e3
      go_roundw
      case rel => exact ⟨j + 1, A3, C3, ⟨y3.val, (by with_reducible repeat' (first | exact Gr.refl | exact Hid.out (by assumption) | refine Gr.alloc ?_ _ | refine gr_ext _ ?_ | refine gr_gx _ ?_ | refine Gr.drew ?_))⟩, by omega, rfl, rfl, h3⟩
      case measure => have := HM.out; simp [lenOf]; omega
    · obtain rfl : j = z := by omega
      have hne : ((m : Int) % 8 != 0) = false := by simp; omega
      clear hm
      go_wp2_with fail
      go_returns
      exact ⟨_, rfl, own_eq ho.out (by have := HM.out; simp; omega) rfl, g.gr.below hBw⟩
set_option maxRecDepth 20000 in
set_option maxHeartbeats 2000000 in
theorem rput8_any (n : Int) (h0 : 0 ≤ n) (h1 : n ≤ 1099511627776) (w : World) : GivesB Tryz.prog 95 #[.int .i64 n, .int .i64 8] w (fun v => .tuple #[v, .int .i64 0]) (put8 n) := by
  have hmk := make8
  unfold GivesB
  go_enter Tryz.func95, Tryz.ntmps95
  go_wp2_with fail
  refine wp_loop_rounds 9 ?_
  rw [rounds_succ]
  go_wp2_with fail
  rw [rounds_succ]
  go_wp2_with fail
  rw [rounds_succ]
  go_wp2_with fail
  rw [rounds_succ]
  go_wp2_with fail
  rw [rounds_succ]
  go_wp2_with fail
  rw [rounds_succ]
  go_wp2_with fail
  rw [rounds_succ]
  go_wp2_with fail
  rw [rounds_succ]
  go_wp2_with fail
  rw [rounds_succ]
  go_wp2_with fail
  have hE : put8 n = [n / 256 / 256 / 256 / 256 / 256 / 256 / 256 % 256, n / 256 / 256 / 256 / 256 / 256 / 256 % 256, n / 256 / 256 / 256 / 256 / 256 % 256, n / 256 / 256 / 256 / 256 % 256, n / 256 / 256 / 256 % 256, n / 256 / 256 % 256, n / 256 % 256, n % 256] := by
    unfold put8
    rw [show n / 72057594037927936 = n / 256 / 256 / 256 / 256 / 256 / 256 / 256 from by omega, show n / 281474976710656 = n / 256 / 256 / 256 / 256 / 256 / 256 from by omega, show n / 1099511627776 = n / 256 / 256 / 256 / 256 / 256 from by omega, show n / 4294967296 = n / 256 / 256 / 256 / 256 from by omega, show n / 16777216 = n / 256 / 256 / 256 from by omega, show n / 65536 = n / 256 / 256 from by omega]
  have hb := bytes_new w _ 5 _ rfl (hE ▸ put8_byt n) (by simp)
  rw [hE]
  go_returns
  exact ⟨some ⟨w.heap.size, 0, none⟩, 8, rfl, hb, (by with_reducible repeat' (first | exact Below.refl _ _ | exact Nat.le_refl _ | refine Below.alloc ?_ ?_ _ | refine below_ext _ ?_ ?_ | refine Below.drew ?_ | refine Below.setCell ?_ ?_ _ | refine le_alloc ?_ | refine Ext.le_size _ ?_ | refine le_drew ?_ | refine le_setCell ?_)), fun b o q h => by cases h; exact Nat.le_refl _⟩
end Go.Proofs.YthagkijplklemaaGreatDoor
end

section
namespace Go.Proofs.YthagkijplklemaaGreatDoor
open Go.ChangeShapes Go.WideShapes Go.ChangeAt Go.RowKit Go.Sc
section
variable (w : World) {ops : Array Oper} {rest : List Oper} {o : Oper} {a : Act} {Q : Exit → Act → World → Prop}
/-- Bytes appended to nothing. -/
theorem wpList_ap0 (hgd : o.guard = none) (s x : Operand) (ho : o.op = .call { callee := .builtin .append, args := #[s, x], argTypes := #[22, 22] })
    (B : Nat) (hs : a.eval s = .slice none 0 0) (A : Option Addr) (C : Nat) (xs : List Int) (hb : Hid (Bytes w ⟨A, C, xs⟩)) (hx : a.eval x = .slice A xs.length C)
    (hl : xs.length ≤ 1099511627776) (hbase : B ≤ w.heap.size)
    (h : ∀ (v' : Value) (y : Ext w), Hid (y.val.ownsRow B 5 1 v' xs.length (vU xs)) → wpList Tryz.prog ops Q rest (a.put o.dst v') y.val) : wpList Tryz.prog ops Q (o :: rest) a w :=
  wpList_appS w hgd s x 22 ho B 5 (.int .u8 0) 1 1 Tryz.underlying22 infU8 rfl (by decide) (.slice none 0 0) 0 [] hs (hid (own_nil _ _ _ _)) eByte ⟨A, C, xs⟩ hb (fun y _ => ⟨rfl, fun u hu => by simp [eByte] at hu; subst hu; rfl⟩) hx (by unfold maxLen; simp only; omega) (by simp only; omega) hbase
    fun v' w' h1 h2 _ => h v' ⟨w', (Below.refl _ _).grown h2.out (Nat.le_refl _) (fun k hk => by cases hk)⟩ (hid (own_eq h1.out (by simp) (by rw [← vU_cells]; simp)))
end
theorem bytes_part {w : World} {b o c : Nat} {xs : List Int} (h : Bytes w ⟨some ⟨b, o, none⟩, c, xs⟩) (k n : Nat) (hk : k + n ≤ xs.length) : Bytes w ⟨some ⟨b, o + k, none⟩, c - k, (xs.drop k).take n⟩ := by
  have h1 := bytes_drop h (k := k) (by omega)
  simp only [Option.map_some, addr_add] at h1
  have hle := h.le
  simp only at hle
  refine ⟨by simp; omega, h1.max, h1.nil, fun j x hx => h1.at_ j x ?_⟩
  simp only [List.getElem?_take] at hx
  split at hx
  · exact hx
  · cases hx
/-- A row of bytes, shut against simp. -/
def Row (w : World) (B : Nat) (v : Value) (xs : List Int) : Prop := w.ownsRow B 5 1 v xs.length (vU xs)
theorem Row.eq {w : World} {B n : Nat} {v : Value} {xs : List Int} {ys : List Value} (h : w.ownsRow B 5 1 v n ys) (hn : n = xs.length) (he : ys = vU xs) : Row w B v xs := own_eq h hn he
set_option maxRecDepth 100000 in
set_option maxHeartbeats 4000000 in
theorem rhash_any (s : Sl Int) (w : World) (hs : Hid (Bytes w s)) (hl : s.xs.length ≤ 900000) : GivesB Tryz.prog 55 #[s.v] w (fun v => v) (hashL s.xs) := by
  obtain ⟨a, c, bs⟩ := s
  have hle := hs.out.le
  have hmx := hs.out.max
  simp only at hle hmx hl
  show GivesB _ _ #[.slice a bs.length c] _ _ _
  have hmk := make16
  have hpl := padL_len bs
  obtain ⟨n, hn⟩ : ∃ n, (padL bs).length = 8 * n := ⟨(padL bs).length / 8, by omega⟩
  have hby : ∀ x ∈ padL bs, byt x := padL_byt hs.out.range
  obtain ⟨al, hal⟩ : ∃ al, al = padL bs ++ put8 bs.length := ⟨_, rfl⟩
  have hln : al.length = 8 * (n + 1) := by rw [hal, List.length_append, hn]; show 8 * n + 8 = _; omega
  have hab : ∀ x ∈ al, byt x := by
    rw [hal]
    intro x hx
    rcases List.mem_append.1 hx with h | h
    · exact hby x h
    · exact put8_byt _ x h
  have hH : hashL bs = (chunks8 (n + 1) al).foldl hStep (List.replicate 16 0) := by
    unfold hashL blocksL
    rw [hn, Nat.mul_div_cancel_left _ (by omega), hal]
  have hP : Hid (∀ W : World, Below w.heap.size w W → Calls Tryz.prog 94 #[.slice a bs.length c, .int .i64 8] W fun e w' => ∃ (a : Option Addr) (c : Nat) (x : Ext W), e = .returned (.tuple #[.slice a (8 * n) c, .int .i64 0]) ∧ w' = x.val ∧ Hid (x.val.ownsRow W.heap.size 5 1 (.slice a (8 * n) c) (padL bs).length (vU (padL bs))) ∧ Hid (Bytes x.val ⟨a, c, padL bs⟩)) :=
    fun W hW => (rpad_any ⟨a, c, bs⟩ W (hs.out.mono hW) (by simp only; omega)).go hby _ hn
  have hU : Hid (∀ W : World, Calls Tryz.prog 95 #[.int .i64 bs.length, .int .i64 8] W fun e w' => ∃ (a : Option Addr) (c : Nat) (x : Ext W), e = .returned (.tuple #[.slice a 8 c, .int .i64 0]) ∧ w' = x.val ∧ Hid (Bytes x.val ⟨a, c, put8 bs.length⟩)) :=
    fun W => giv (rput8_any bs.length (by omega) (by omega) W) 8 rfl
  have hn1 : (8 : Int) * (n : Int) ≤ 1000000 := by omega
  have HN := hid hn
  have HA := hid hal
  have HL := hid hln
  have HAB := hid hab
  unfold GivesB
  obtain ⟨R, hR⟩ : ∃ R, R = (chunks8 (n + 1) al).foldl hStep (List.replicate 16 0) := ⟨_, rfl⟩
  rw [hH, ← hR]
  have HR := hid hR
  clear hn hpl hby hal hln hab hH hR
  go_enter Tryz.func55, Tryz.ntmps55
  go_wp2_with (first | (go_at_call 94; refine (hP.out _ (by with_reducible repeat' (first | exact Below.refl _ _ | exact Nat.le_refl _ | refine Below.alloc ?_ ?_ _ | refine below_ext _ ?_ ?_ | refine Below.drew ?_ | refine Below.setCell ?_ ?_ _ | refine le_alloc ?_ | refine Ext.le_size _ ?_ | refine le_drew ?_ | refine le_setCell ?_))).mono ?_; rintro e w' ⟨pa, pc, x1, rfl, rfl, hpo, -⟩) | (go_at_call 95; refine (hU.out _).mono ?_; rintro e w' ⟨ua, uc, x2, rfl, rfl, hub⟩) | (at_builtin; refine wpList_apB _ rfl _ _ rfl w.heap.size (.slice pa (8 * n) pc) (padL bs) rfl (hid (own_ext x2 hpo.out)) ua uc (put8 bs.length) hub rfl (by have := HN.out; show _ + 8 ≤ _; omega) (by with_reducible repeat' (first | exact Below.refl _ _ | exact Nat.le_refl _ | refine Below.alloc ?_ ?_ _ | refine below_ext _ ?_ ?_ | refine Below.drew ?_ | refine Below.setCell ?_ ?_ _ | refine le_alloc ?_ | refine Ext.le_size _ ?_ | refine le_drew ?_ | refine le_setCell ?_)) ?_; intro v3 y3 hy3) | fail)
  have h3 : Hid (y3.val.ownsRow w.heap.size 5 1 v3 al.length (vU al)) := hid (own_eq hy3.out (by rw [HA.out]) (by rw [HA.out]))
  obtain ⟨ga, gc, rfl, hgb, hgf⟩ := own_sl h3.out HAB.out
  obtain ⟨gb, go, rfl, hgl⟩ := addr_of hgb (by have := HL.out; omega)
  have hbw : Hid (Below w.heap.size w y3.val) := hid (Below.trans (show Below w.heap.size w x2.val from (by with_reducible repeat' (first | exact Below.refl _ _ | exact Nat.le_refl _ | refine Below.alloc ?_ ?_ _ | refine below_ext _ ?_ ?_ | refine Below.drew ?_ | refine Below.setCell ?_ ?_ _ | refine le_alloc ?_ | refine Ext.le_size _ ?_ | refine le_drew ?_ | refine le_setCell ?_))) (y3.gr.below (by with_reducible repeat' (first | exact Below.refl _ _ | exact Nat.le_refl _ | refine Below.alloc ?_ ?_ _ | refine below_ext _ ?_ ?_ | refine Below.drew ?_ | refine Below.setCell ?_ ?_ _ | refine le_alloc ?_ | refine Ext.le_size _ ?_ | refine le_drew ?_ | refine le_setCell ?_))))
  have h16 := bytes_new y3.val (List.replicate 16 0) 5 _ rfl (fun x hx => by rw [List.eq_of_mem_replicate hx]; exact ⟨by omega, by omega⟩) (by simp)
  have hys := hbw.out.size
  have hgl2 := hgb.le
  have hgl3 := hgb.max
  simp only at hgl2 hgl3
  refine gen_world (fun V => Below w.heap.size w V ∧ Bytes V ⟨some ⟨gb, go, none⟩, gc, al⟩ ∧ gb < V.heap.size ∧ ∃ hb, hb < V.heap.size ∧ hb = y3.val.heap.size ∧ Bytes V ⟨some ⟨hb, 0, none⟩, 16, List.replicate 16 0⟩) ⟨(by (with_reducible repeat' (first | exact Hid.out (by assumption) | exact Below.refl _ _ | exact Nat.le_refl _ | refine Below.alloc ?_ ?_ _ | refine below_ext _ ?_ ?_ | refine Below.drew ?_ | refine Below.setCell ?_ ?_ _ | refine le_alloc ?_ | refine Ext.le_size _ ?_ | refine le_drew ?_ | refine le_setCell ?_)); (all_goals (first | omega | (simp; done) | (simp; omega)))), Sl.Ok.mono hgb (by with_reducible repeat' (first | exact Below.refl _ _ | exact Nat.le_refl _ | refine Below.alloc ?_ ?_ _ | refine below_ext _ ?_ ?_ | refine Below.drew ?_ | refine Below.setCell ?_ ?_ _ | refine le_alloc ?_ | refine Ext.le_size _ ?_ | refine le_drew ?_ | refine le_setCell ?_)), Nat.lt_of_lt_of_le hgl (by with_reducible repeat' (first | exact Below.refl _ _ | exact Nat.le_refl _ | refine Below.alloc ?_ ?_ _ | refine below_ext _ ?_ ?_ | refine Below.drew ?_ | refine Below.setCell ?_ ?_ _ | refine le_alloc ?_ | refine Ext.le_size _ ?_ | refine le_drew ?_ | refine le_setCell ?_)), y3.val.heap.size, InW.lt, rfl, h16⟩ ?_
  rintro V ⟨hbV, hgV, hglV, hb0, hbl0, rfl, h0⟩
  have HBV := hid hbV
  have hVw := hbV.size
  have HGV := hid hgV
  have H0 := hid h0
  have hlen : (al.length : Int) = 8 * (n : Int) + 8 := by have := HL.out; omega
  clear hbV hgV h0 h16 hgb hgl hgf h3 hy3 hbw hub hpo hP hU hs HA HN
  go_loopw [7, 8] (fun h i wr => ∃ (k m hb hf hc : Nat) (x : Ext V), m = 8 * k ∧ k ≤ n + 1 ∧ w.heap.size ≤ hb ∧ i = .int .i64 (m : Int) ∧ h = .slice (some ⟨hb, hf, none⟩) 16 hc ∧ wr = x.val ∧ Hid (Bytes x.val ⟨some ⟨hb, hf, none⟩, hc, (chunks8 k al).foldl hStep (List.replicate 16 0)⟩)) (fun _ i _ => al.length - (intOf i).toNat)
  case atStart => exact ⟨0, 0, _, 0, 16, ⟨V, Below.refl _ _⟩, rfl, Nat.zero_le _, hys, rfl, rfl, rfl, H0⟩
  case round =>
    obtain ⟨k, m, hb, hf, hc, x, hm, hk, hwb, rfl, rfl, rfl, hh⟩ := hrel
    obtain ⟨H, hHk⟩ : ∃ H, H = (chunks8 k al).foldl hStep (List.replicate 16 0) := ⟨_, rfl⟩
    rw [← hHk] at hh
    have hHl : H.length = 16 := by rw [hHk]; exact fold_len _ _ (by simp)
    have HH := hid hHk
    clear hHk
    have hhl := hh.out.le
    have hhm := hh.out.max
    simp only [hHl] at hhl hhm
    by_cases hlt : k < n + 1
    · obtain ⟨X, hX⟩ : ∃ X, X = (al.drop m).take 8 := ⟨_, rfl⟩
      have hXl : X.length = 8 := by rw [hX, List.length_take, List.length_drop, HL.out]; omega
      have hst : Hid ((chunks8 (k + 1) al).foldl hStep (List.replicate 16 0) = hStep H X) := by
        have : (chunks8 (k + 1) al).foldl hStep (List.replicate 16 0) = hStep H X := by
          rw [chunks8_snoc, List.foldl_append, ← HH.out, hX, hm]
          rfl
        exact this
      have hxb : Hid (∀ W : World, Below V.heap.size V W → Bytes W ⟨some ⟨gb, go + m, none⟩, gc - m, X⟩) := fun W h => by rw [hX]; exact bytes_part (HGV.out.mono h) m 8 (by rw [HL.out]; omega)
      have hXb : ∀ x ∈ X, byt x := fun x hx => by rw [hX] at hx; exact HAB.out x (List.mem_of_mem_drop (List.mem_of_mem_take hx))
      have hm1 : (0 : Int) ≤ (m : Int) := by omega
      have hm2 : (m : Int) < (al.length : Int) := by omega
      have hm3 : (m : Int) + 8 ≤ (al.length : Int) := by omega
      have hs8 : m + 8 - m = 8 := by omega
      have HM := hid hm
      clear hX hm
      go_wp2_with fail
      obtain ⟨W0, hW0⟩ : ∃ W0, W0 = x.val := ⟨_, rfl⟩
      have hbW : Hid (Below V.heap.size V W0) := hid (by rw [hW0]; exact x.below)
      rw [← hW0] at hh ⊢
      have hx0 : Hid (Bytes W0 ⟨some ⟨gb, go + m, none⟩, gc - m, X⟩) := hid (hxb.out _ hbW.out)
      have hsV := hbW.out.size
      clear hW0 x hxb
      obtain ⟨B, hB⟩ : ∃ B, B = W0.heap.size := ⟨_, rfl⟩
      haveI : LeW B W0 := ⟨by omega⟩
      have hBw : B ≤ W0.heap.size := by omega
      have HB := hid hB
      clear hB
      go_loopw [10, 11] (fun o i wr => ∃ (j : Nat) (g : Gx 5 B W0), j ≤ 8 ∧ i = .int .i64 j ∧ wr = g.val ∧ Row g.val B o ((invL X).take j)) (fun _ i _ => 8 - (intOf i).toNat)
      case atStart => exact ⟨0, ⟨_, .refl⟩, Nat.zero_le _, rfl, rfl, own_nil _ _ _ _⟩
      case round =>
        obtain ⟨j, g, hj, rfl, rfl, ho⟩ := hrel
        have hil : (invL X).length = 8 := by simp [invL, hXl]
        obtain hjt | rfl : j < 8 ∨ j = 8 := by omega
        · obtain ⟨y, hy⟩ := getElem?_of_lt (show j < X.length by omega)
          obtain ⟨⟨ly, uy⟩, b1, off1, hba, hbl1, hc1⟩ := hx0.out.at_ j y hy
          cases hba
          haveI : Lt gb B := ⟨by rw [HB.out]; exact hbl1⟩
          have cy : g.val.cell? ⟨gb, go + m + j, none⟩ = some (.int .u8 y) := (Gx.cell g gb (go + m + j)).trans (by have := hc1 0 _ rfl; simpa using this)
          have hsp : Hid ((invL X).take (j + 1) = (invL X).take j ++ [255 - y]) := hid (by rw [List.take_add_one]; simp [invL, hy])
          have hpl : ((invL X).take j).length = j := by rw [List.length_take]; omega
          obtain ⟨pre, hpre⟩ : ∃ p, p = (invL X).take j := ⟨_, rfl⟩
          rw [← hpre] at ho hsp hpl
          have HO : Hid (g.val.ownsRow B 5 1 u10 pre.length (vU pre)) := hid ho
          haveI : InW gb W0 := ⟨hbl1⟩
          clear hc1 hy hpre hil ho
          have hj1 : (0 : Int) ≤ (j : Int) := by omega
          have hj2 : (j : Int) < 8 := by omega
          go_wp2_with (first | (at_builtin; refine wpList_appN g.val rfl _ _ 22 rfl B 5 (.int .u8 0) 1 1 Tryz.underlying22 infU8 rfl (by decide) u10 pre.length (vU pre) rfl HO #[.int .u8 (255 - y)] _ 1 1 rfl rfl (by intro q hq; simp at hq; subst hq; rfl) (by unfold maxLen; omega) (by omega) LeW.le ?_; intro v' z hz) | fail)
          have hR : Row z.val B v' ((invL X).take (j + 1)) := Row.eq hz.out (by rw [hsp.out]; simp) (by rw [hsp.out]; simp)
          exact ⟨⟨j + 1, by omega, by go_num, ⟨z.val, (by with_reducible repeat' (first | exact Gr.refl | exact Hid.out (by assumption) | refine Gr.alloc ?_ _ | refine gr_ext _ ?_ | refine gr_gx _ ?_ | refine Gr.drew ?_))⟩, rfl, hR⟩, by simp [intOf]; omega⟩
        · rw [List.take_of_length_le (by omega)] at ho
          have hot : Hid (g.val.ownsRow B 5 1 u10 (invL X).length (vU (invL X))) := hid ho
          obtain ⟨ta, tc, rfl, htb0, hfr⟩ := own_sl hot.out (invL_byt hXb)
          have htb := hid htb0
          have hgB : Hid (Below B W0 g.val) := hid (g.gr.below hBw)
          have hgs := g.size
          have hhg := hid (hh.out.mono (w' := g.val) (by rw [← HB.out]; exact hgB.out))
          have hxg := hid (hx0.out.mono (w' := g.val) (by rw [← HB.out]; exact hgB.out))
          obtain ⟨tb, to, rfl, htl⟩ := addr_of htb.out (by omega)
          rw [hil]
          obtain ⟨G, hG⟩ : ∃ G, G = g.val := ⟨_, rfl⟩
          have hGV : Hid (Below V.heap.size V G) := hid (by rw [hG]; exact hbW.out.trans ((g.gr.below hBw).mono (by have := HB.out; omega)))
          rw [← hG] at htb hgs hhg hxg htl ⊢
          clear hG hot ho htb0 hgB hfr hh hx0 hbW g
          obtain ⟨E1, e1⟩ : ∃ E, E = encL H X := ⟨_, rfl⟩
          obtain ⟨E2, e2⟩ : ∃ E, E = encL H (invL X) := ⟨_, rfl⟩
          have l1 : E1.length = 8 := by rw [e1, encL_len]
          have l2 : E2.length = 8 := by rw [e2, encL_len]
          have hE1 : Hid (∀ W : World, Below G.heap.size G W → Calls Tryz.prog 96 #[.slice (some ⟨hb, hf, none⟩) 16 hc, .slice (some ⟨gb, go + m, none⟩) 8 (gc - m)] W fun e w' => ∃ (a : Option Addr) (c : Nat) (y : Ext W), e = .returned (.tuple #[.slice a 8 c, .int .i64 0]) ∧ w' = y.val ∧ Hid (Bytes y.val ⟨a, c, E1⟩)) := fun W h => by
            have := rencrypt_any hb _ hc H hHl gb (go + m) (gc - m) X hXl W (hid (hhg.out.mono h)) (hid (hxg.out.mono h))
            rw [← e1] at this
            exact giv this 8 l1
          have hE2 : Hid (∀ W : World, Below G.heap.size G W → Calls Tryz.prog 96 #[.slice (some ⟨hb, hf, none⟩) 16 hc, .slice (some ⟨tb, to, none⟩) 8 tc] W fun e w' => ∃ (a : Option Addr) (c : Nat) (y : Ext W), e = .returned (.tuple #[.slice a 8 c, .int .i64 0]) ∧ w' = y.val ∧ Hid (Bytes y.val ⟨a, c, E2⟩)) := fun W h => by
            have := rencrypt_any hb _ hc H hHl tb to tc (invL X) hil W (hid (hhg.out.mono h)) (hid (htb.out.mono h))
            rw [← e2] at this
            exact giv this 8 l2
          obtain ⟨Y1, f1⟩ : ∃ Y, Y = xorL E1 (H.take 8) := ⟨_, rfl⟩
          obtain ⟨Y2, f2⟩ : ∃ Y, Y = xorL E2 (H.drop 8) := ⟨_, rfl⟩
          have m1 : Y1.length = 8 := by rw [f1, xorL_len (by simp [hHl, l1]), l1]
          have m2 : Y2.length = 8 := by rw [f2, xorL_len (by simp [hHl, l2]), l2]
          have b1 : ∀ x ∈ Y1, byt x := by rw [f1]; exact xorL_byt _ _
          have b2 : ∀ x ∈ Y2, byt x := by rw [f2]; exact xorL_byt _ _
          have hX1 : Hid (∀ (W : World) (A : Option Addr) (C : Nat), Bytes W ⟨A, C, E1⟩ → Below G.heap.size G W → Calls Tryz.prog 97 #[.slice A 8 C, .slice (some ⟨hb, hf, none⟩) 8 hc] W fun e w' => ∃ (a : Option Addr) (c : Nat) (y : Ext W), e = .returned (.slice a 8 c) ∧ w' = y.val ∧ Hid (y.val.ownsRow W.heap.size 5 1 (.slice a 8 c) Y1.length (vU Y1)) ∧ Hid (Bytes y.val ⟨a, c, Y1⟩)) := fun W A C h1 h2 => by
            have hq := bytes_part (hhg.out.mono h2) 0 8 (by omega)
            simp only [Nat.add_zero, Nat.sub_zero, List.drop_zero] at hq
            have h8 : (H.take 8).length = 8 := by simp [hHl]
            have := rxor_any ⟨A, C, E1⟩ ⟨some ⟨hb, hf, none⟩, hc, H.take 8⟩ l1 h8 W h1 hq
            simp only [Sl.v, l1, h8] at this
            rw [← f1] at this
            exact this.go b1 8 m1
          have hX2 : Hid (∀ (W : World) (A : Option Addr) (C : Nat), Bytes W ⟨A, C, E2⟩ → Below G.heap.size G W → Calls Tryz.prog 97 #[.slice A 8 C, .slice (some ⟨hb, hf + 8, none⟩) 8 (hc - 8)] W fun e w' => ∃ (a : Option Addr) (c : Nat) (y : Ext W), e = .returned (.slice a 8 c) ∧ w' = y.val ∧ Hid (y.val.ownsRow W.heap.size 5 1 (.slice a 8 c) Y2.length (vU Y2)) ∧ Hid (Bytes y.val ⟨a, c, Y2⟩)) := fun W A C h1 h2 => by
            have h8 : (H.drop 8).length = 8 := by simp [hHl]
            have hq := bytes_part (hhg.out.mono h2) 8 8 (by omega)
            rw [List.take_of_length_le (by omega)] at hq
            have := rxor_any ⟨A, C, E2⟩ ⟨some ⟨hb, hf + 8, none⟩, hc - 8, H.drop 8⟩ l2 h8 W h1 hq
            simp only [Sl.v, l2, h8] at this
            rw [← f2] at this
            exact this.go b2 8 m2
          have hst2 : Hid ((chunks8 (k + 1) al).foldl hStep (List.replicate 16 0) = Y1 ++ Y2) := hid (by rw [hst.out, f1, f2, e1, e2]; rfl)
          clear hst e1 e2 f1 f2 hXb hhg hxg htb hil
          obtain ⟨D, hD⟩ : ∃ D, D = G.heap.size := ⟨_, rfl⟩
          haveI : LeW D G := ⟨by omega⟩
          have HD := hid hD
          have hDV : V.heap.size ≤ D := by have := hGV.out.size; omega
          have hDw : D ≤ G.heap.size := by omega
          clear hD
          go_wp2_with (first | (go_at_call 96; first | ((with_reducible refine (hE1.out _ ?_).mono ?_); (exact (by (with_reducible repeat' (first | exact Hid.out (by assumption) | exact Below.refl _ _ | exact Nat.le_refl _ | refine Below.alloc ?_ ?_ _ | refine below_ext _ ?_ ?_ | refine Below.drew ?_ | refine Below.setCell ?_ ?_ _ | refine le_alloc ?_ | refine Ext.le_size _ ?_ | refine le_drew ?_ | refine le_setCell ?_)); (all_goals (first | omega | (simp; done) | (simp; omega))))); (rintro e w' ⟨a1, c1, y1, rfl, rfl, hy1⟩)) | ((with_reducible refine (hE2.out _ ?_).mono ?_); (exact (by (with_reducible repeat' (first | exact Hid.out (by assumption) | exact Below.refl _ _ | exact Nat.le_refl _ | refine Below.alloc ?_ ?_ _ | refine below_ext _ ?_ ?_ | refine Below.drew ?_ | refine Below.setCell ?_ ?_ _ | refine le_alloc ?_ | refine Ext.le_size _ ?_ | refine le_drew ?_ | refine le_setCell ?_)); (all_goals (first | omega | (simp; done) | (simp; omega))))); (rintro e w' ⟨a2, c2, y2, rfl, rfl, hy2⟩))) | (go_at_call 97; first | ((with_reducible refine (hX1.out _ _ _ ?_ ?_).mono ?_); (exact Sl.Ok.mono hy1.out (by with_reducible repeat' (first | exact Below.refl _ _ | exact Nat.le_refl _ | refine Below.alloc ?_ ?_ _ | refine below_ext _ ?_ ?_ | refine Below.drew ?_ | refine Below.setCell ?_ ?_ _ | refine le_alloc ?_ | refine Ext.le_size _ ?_ | refine le_drew ?_ | refine le_setCell ?_))); (exact (by (with_reducible repeat' (first | exact Hid.out (by assumption) | exact Below.refl _ _ | exact Nat.le_refl _ | refine Below.alloc ?_ ?_ _ | refine below_ext _ ?_ ?_ | refine Below.drew ?_ | refine Below.setCell ?_ ?_ _ | refine le_alloc ?_ | refine Ext.le_size _ ?_ | refine le_drew ?_ | refine le_setCell ?_)); (all_goals (first | omega | (simp; done) | (simp; omega))))); (rintro e w' ⟨a3, c3, y3, rfl, rfl, -, hy3⟩)) | ((with_reducible refine (hX2.out _ _ _ ?_ ?_).mono ?_); (exact Sl.Ok.mono hy2.out (by with_reducible repeat' (first | exact Below.refl _ _ | exact Nat.le_refl _ | refine Below.alloc ?_ ?_ _ | refine below_ext _ ?_ ?_ | refine Below.drew ?_ | refine Below.setCell ?_ ?_ _ | refine le_alloc ?_ | refine Ext.le_size _ ?_ | refine le_drew ?_ | refine le_setCell ?_))); (exact (by (with_reducible repeat' (first | exact Hid.out (by assumption) | exact Below.refl _ _ | exact Nat.le_refl _ | refine Below.alloc ?_ ?_ _ | refine below_ext _ ?_ ?_ | refine Below.drew ?_ | refine Below.setCell ?_ ?_ _ | refine le_alloc ?_ | refine Ext.le_size _ ?_ | refine le_drew ?_ | refine le_setCell ?_)); (all_goals (first | omega | (simp; done) | (simp; omega))))); (rintro e w' ⟨a4, c4, y4, rfl, rfl, -, hy4⟩))) | (at_builtin; refine wpList_ap0 y3.val rfl _ _ rfl D rfl a3 c3 Y1 hy3 (by rw [m1]; rfl) (by omega) LeW.le ?_; intro v5 y5 hy5) | (at_builtin; refine wpList_apB y4.val rfl _ _ rfl D v5 Y1 rfl (hid (by with_reducible repeat' (first | exact Hid.out (by assumption) | refine own_alloc ?_ _ | refine own_ext _ ?_ | refine own_drew ?_))) a4 c4 Y2 hy4 (by rw [m2]; rfl) (by omega) LeW.le ?_; intro v6 y6 hy6) | fail)
          obtain ⟨na, nc, rfl, hnb, hnf⟩ := own_sl hy6.out (fun x hx => by
            rcases List.mem_append.1 hx with h | h
            · exact b1 x h
            · exact b2 x h)
          have hnl : (Y1 ++ Y2).length = 16 := by rw [List.length_append, m1, m2]
          obtain ⟨nb, nf, rfl, hnbl⟩ := addr_of hnb (by omega)
          have hfin : Hid (Below V.heap.size V y6.val) := hid (Below.trans (hGV.out.trans (Below.mono (show Below G.heap.size G y4.val from (by (with_reducible repeat' (first | exact Hid.out (by assumption) | exact Below.refl _ _ | exact Nat.le_refl _ | refine Below.alloc ?_ ?_ _ | refine below_ext _ ?_ ?_ | refine Below.drew ?_ | refine Below.setCell ?_ ?_ _ | refine le_alloc ?_ | refine Ext.le_size _ ?_ | refine le_drew ?_ | refine le_setCell ?_)); (all_goals (first | omega | (simp; done) | (simp; omega))))) (by have := HD.out; omega))) ((y6.gr.below LeW.le).mono hDV))
          rw [hnl]
          refine ⟨⟨k + 1, m + 8, nb, nf, nc, ⟨y6.val, hfin.out⟩, by have := HM.out; omega, by omega, by have := hnf nb nf none rfl; have := hVw; omega, by go_num, rfl, rfl, by rw [hst2.out]; exact hnb⟩, by simp [intOf]; omega⟩
    · have hm2 : ¬ (m : Int) < (al.length : Int) := by omega
      obtain rfl : k = n + 1 := by omega
      go_wp2_with fail
      go_ret
      have hRH : R = H := HR.out.trans HH.out.symm
      rw [hRH]
      exact ⟨_, _, by rw [hHl]; rfl, hh.out, (by (with_reducible repeat' (first | exact Hid.out (by assumption) | exact Below.refl _ _ | exact Nat.le_refl _ | refine Below.alloc ?_ ?_ _ | refine below_ext _ ?_ ?_ | refine Below.drew ?_ | refine Below.setCell ?_ ?_ _ | refine le_alloc ?_ | refine Ext.le_size _ ?_ | refine le_drew ?_ | refine le_setCell ?_)); (all_goals (first | omega | (simp; done) | (simp; omega)))), fun b o q h => by cases h; exact hwb⟩
end Go.Proofs.YthagkijplklemaaGreatDoor
end
