/- The reference's comparisons: strings of bytes, lists of numbers, of types. The reference's comparisons: classes, methods. -/
import Derived.Test.YthagkijplklemaaGreatDoorS17
section
namespace Go.Sc
/-- Compare byte by byte. -/
def cmpL : List Int → List Int → Int
  | [], [] => 0
  | [], _ :: _ => -1
  | _ :: _, [] => 1
  | x :: r, y :: s => if x < y then -1 else if y < x then 1 else cmpL r s
theorem cmpL_zero : ∀ {a b : List Int}, (cmpL a b == 0) = bEq a b
  | [], [] => rfl
  | [], _ :: _ => by simp [cmpL, bEq]
  | _ :: _, [] => by simp [cmpL, bEq]
  | x :: r, y :: s => by
    have ih := @cmpL_zero r s
    unfold cmpL
    by_cases h1 : x < y
    · rw [if_pos h1]
      have : ¬ x = y := by omega
      simp [bEq, this]
    · rw [if_neg h1]
      by_cases h2 : y < x
      · rw [if_pos h2]
        have : ¬ x = y := by omega
        simp [bEq, this]
      · rw [if_neg h2, ih]
        have : x = y := by omega
        subst this
        simp [bEq]
theorem cmpL_drop {a b : List Int} {k : Nat} {x y : Int} (hx : a[k]? = some x) (hy : b[k]? = some y) : cmpL (a.drop k) (b.drop k) = if x < y then -1 else if y < x then 1 else cmpL (a.drop (k + 1)) (b.drop (k + 1)) := by
  have h1 : a.drop k = x :: a.drop (k + 1) := by
    have hl := (List.getElem?_eq_some_iff.1 hx)
    obtain ⟨hl, he⟩ := hl
    rw [List.drop_eq_getElem_cons hl, he]
  have h2 : b.drop k = y :: b.drop (k + 1) := by
    have hl := (List.getElem?_eq_some_iff.1 hy)
    obtain ⟨hl, he⟩ := hl
    rw [List.drop_eq_getElem_cons hl, he]
  rw [h1, h2, cmpL]
theorem cmpL_end {a b : List Int} {k : Nat} (hk1 : k ≤ a.length) (hk2 : k ≤ b.length) (h : k = a.length ∨ k = b.length) : cmpL (a.drop k) (b.drop k) = if a.length < b.length then -1 else if b.length < a.length then 1 else 0 := by
  rcases h with h | h
  · subst h
    rw [List.drop_length]
    by_cases e : a.length < b.length
    · rw [if_pos e]
      cases hd : b.drop a.length with
      | nil => have := congrArg List.length hd; rw [List.length_drop] at this; simp at this; omega
      | cons x r => rfl
    · have : a.length = b.length := by omega
      rw [if_neg e, if_neg (by omega), this, List.drop_length]
      rfl
  · subst h
    rw [List.drop_length]
    by_cases e : b.length < a.length
    · rw [if_neg (by omega), if_pos e]
      cases hd : a.drop b.length with
      | nil => have := congrArg List.length hd; rw [List.length_drop] at this; simp at this; omega
      | cons x r => rfl
    · have : b.length = a.length := by omega
      rw [if_neg (by omega), if_neg e, this, List.drop_length]
      rfl
end Go.Sc
namespace Go.Sc
theorem gen_w {P : Program} {c : Code} {Q : Exit → Act → World → Prop} {a : Act} {w : World} (p : World → Prop) (hp : p w) (h : ∀ V, p V → c.wp P Q a V) : c.wp P Q a w := h w hp
end Go.Sc
namespace Go.Proofs.YthagkijplklemaaGreatDoor
open Go.ChangeShapes Go.WideShapes Go.ChangeAt Go.RowKit Go.Sc
set_option maxRecDepth 20000 in
set_option maxHeartbeats 1000000 in
theorem compare_any (s t : Sl Int) (w : World) (hs : Hid (Bytes w s)) (ht : Hid (Bytes w t)) : Gives Tryz.prog 37 #[s.v, t.v] w (.int .i64 (cmpL s.xs t.xs)) := by
  obtain ⟨a, c, xs⟩ := s
  obtain ⟨a', c', ys⟩ := t
  have hle := hs.out.le
  have hmx := hs.out.max
  have hle' := ht.out.le
  have hmx' := ht.out.max
  simp only at hle hmx hle' hmx'
  show Gives _ _ #[.slice a xs.length c, .slice a' ys.length c'] _ _
  unfold Gives
  go_enter Tryz.func37, Tryz.ntmps37
  go_wp2_with fail
  go_loopw [5] (fun i wr => ∃ (k : Nat) (x : Ext w), k ≤ xs.length ∧ k ≤ ys.length ∧ i = .int .i64 k ∧ Hid (cmpL xs ys = cmpL (xs.drop k) (ys.drop k)) ∧ wr = x.val) (fun i _ => xs.length - (intOf i).toNat)
  case atStart => exact ⟨0, ⟨w, Below.refl _ _⟩, Nat.zero_le _, Nat.zero_le _, rfl, rfl, rfl⟩
  case round =>
    obtain ⟨k, x, hk, hk', rfl, HC, rfl⟩ := hrel
    by_cases hlt : k < xs.length ∧ k < ys.length
    · obtain ⟨l1, l2⟩ := hlt
      obtain ⟨y, hy⟩ := getElem?_of_lt l1
      obtain ⟨z, hz⟩ := getElem?_of_lt l2
      obtain ⟨hr1, b, off, hba, hbl, hc⟩ := hs.out.at_ k y hy
      obtain ⟨hr2, b', off', hba', hbl', hc'⟩ := ht.out.at_ k z hz
      simp only at hba hba'
      subst hba
      subst hba'
      have h0 := hc 0 _ rfl; simp only [Nat.add_zero, Nat.mul_one] at h0
      have g0 := hc' 0 _ rfl; simp only [Nat.add_zero, Nat.mul_one] at g0
      haveI : InW b w := ⟨hbl⟩
      haveI : InW b' w := ⟨hbl'⟩
      have HD := hid (cmpL_drop hy hz)
      clear hc hc' hbl' hy hz
      have hk1 : (0 : Int) ≤ (k : Int) := by omega
      have hk2 : (k : Int) < (xs.length : Int) := by omega
      have hk3 : (k : Int) < (ys.length : Int) := by omega
      by_cases e1 : y < z
      · have E1 := hid e1
        have d1 : decide (y < z) = true := by simp [e1]
        go_wp2_with fail
        refine wp_region_ext (by kernel_rfl) (by kernel_rfl) ?_; (repeat (go_big_quiet_step (fail))); refine wpQuiet_nil ?_; intro xw
        go_wp2_with fail
        go_ret
        exact ⟨ret_int (by rw [HC.out, HD.out, if_pos E1.out]), END⟩
      · by_cases e2 : z < y
        · have E1 := hid e1
          have E2 := hid e2
          have d1 : decide (y < z) = false := by simp; omega
          have d2 : decide (z < y) = true := by simp [e2]
          clear e1
          go_wp2_with fail
          refine wp_region_ext (by kernel_rfl) (by kernel_rfl) ?_; (repeat (go_big_quiet_step (fail))); refine wpQuiet_nil ?_; intro xw
          go_wp2_with fail
          refine wp_region_ext (by kernel_rfl) (by kernel_rfl) ?_; (repeat (go_big_quiet_step (fail))); refine wpQuiet_nil ?_; intro xw
          go_wp2_with fail
          go_ret
          exact ⟨ret_int (by rw [HC.out, HD.out, if_neg (Int.not_lt.2 E1.out), if_pos E2.out]), END⟩
        · have E1 := hid e1
          have E2 := hid e2
          have d1 : decide (y < z) = false := by simp; omega
          have d2 : decide (z < y) = false := by simp; omega
          clear e1 e2
          go_wp2_with fail
          refine wp_region_ext (by kernel_rfl) (by kernel_rfl) ?_; (repeat (go_big_quiet_step (fail))); refine wpQuiet_nil ?_; intro xw
          go_wp2_with fail
          refine wp_region_ext (by kernel_rfl) (by kernel_rfl) ?_; (repeat (go_big_quiet_step (fail))); refine wpQuiet_nil ?_; intro xw
          go_wp2_with fail
          go_roundw
          case rel => exact ⟨k + 1, ⟨_, END⟩, by omega, by omega, by go_num, hid (by rw [HC.out, HD.out, if_neg (Int.not_lt.2 E1.out), if_neg (Int.not_lt.2 E2.out)]), rfl⟩
          case measure => simp [intOf]; omega
    · have HE := hid (cmpL_end hk hk' (by omega))
      go_wp2_with fail
      all_goals first
        | (exfalso; omega)
        | (go_ret; exact ⟨ret_int (by rw [HC.out, HE.out]; grind), END⟩)
theorem rsame_any (s t : Sl Int) (w : World) (hs : Hid (Bytes w s)) (ht : Hid (Bytes w t)) : Gives Tryz.prog 16 #[s.v, t.v] w (.bool (bEq s.xs t.xs)) := by
  have hC := hid (compare_any s t w hs ht)
  have hE := hid (@cmpL_zero s.xs t.xs)
  obtain ⟨a, c, xs⟩ := s
  obtain ⟨a', c', ys⟩ := t
  simp only at hC hE ⊢
  generalize cmpL xs ys = z at *
  unfold Gives
  go_enter Tryz.func16, Tryz.ntmps16
  go_wp2_with (go_at_call 37; refine (hC.out).go.mono ?_; rintro e w' ⟨rfl, xw, rfl⟩)
  go_ret
  exact ⟨ret_bool hE.out, END⟩
set_option maxRecDepth 20000 in
theorem rints_any (s t : Sl Int) (w : World) (hs : Hid (s.Ok eInt 1 w)) (ht : Hid (t.Ok eInt 1 w)) :
    Gives Tryz.prog 80 #[s.v, t.v] w (.bool (eqF (fun x y => decide (x = y)) s.xs t.xs)) := by
  obtain ⟨a, c, xs⟩ := s
  obtain ⟨a', c', ys⟩ := t
  have hle := hs.out.le
  have hmx := hs.out.max
  have hle' := ht.out.le
  have hmx' := ht.out.max
  simp only at hle hmx hle' hmx'
  show Gives _ _ #[.slice a xs.length c, .slice a' ys.length c'] _ _
  unfold Gives
  by_cases hl : xs.length = ys.length
  · have hl' : ((xs.length : Int) != (ys.length : Int)) = false := by simp [hl]
    have HL := hid hl
    clear hl
    go_enter Tryz.func80, Tryz.ntmps80
    go_wp2_with fail
    go_loopw [5] (fun i wr => ∃ k : Nat, k ≤ xs.length ∧ i = .int .i64 k ∧ (∀ (j : Nat) (x y : Int), j < k → xs[j]? = some x → ys[j]? = some y → x = y) ∧ ∃ x : Ext w, wr = x.val) (fun i _ => xs.length - (intOf i).toNat)
    case atStart => exact ⟨0, Nat.zero_le _, rfl, fun _ _ _ h => absurd h (by omega), ⟨w, Below.refl _ _⟩, rfl⟩
    case round =>
      obtain ⟨k, hk, rfl, hz, x, rfl⟩ := hrel
      have HZ := hid hz
      clear hz
      by_cases hlt : k < xs.length
      · obtain ⟨y, hy⟩ := getElem?_of_lt hlt
        obtain ⟨hok, b, off, hba, hbl, hc⟩ := hs.out.at_ k y hy
        simp only at hba
        subst hba
        have h0 := hc 0 _ rfl; simp only [Nat.add_zero, Nat.mul_one] at h0
        haveI : InW b w := ⟨hbl⟩
        have hlt2 : k < ys.length := by have := HL.out; omega
        obtain ⟨z, hzz⟩ := getElem?_of_lt hlt2
        obtain ⟨hok', b', off', hba', hbl', hc'⟩ := ht.out.at_ k z hzz
        simp only at hba'
        subst hba'
        have g0 := hc' 0 _ rfl; simp only [Nat.add_zero, Nat.mul_one] at g0
        haveI : InW b' w := ⟨hbl'⟩
        have HY := hid hy
        have HZZ := hid hzz
        clear hc hok hy hbl hc' hok' hzz hbl'
        have hk1 : (0 : Int) ≤ (k : Int) := by omega
        have hk2 : (k : Int) < (xs.length : Int) := by omega
        have hk3 : (k : Int) < (ys.length : Int) := by omega
        by_cases hF : y = z
        · subst hF
          go_wp2_with fail
          refine wp_region_ext (by kernel_rfl) (by kernel_rfl) ?_; (repeat (go_big_quiet_step (fail))); refine wpQuiet_nil ?_; intro xw
          go_wp2_with fail
          go_roundw
          case rel => exact ⟨k + 1, by omega, by go_num, fun j u v hj hu hv => by
              rcases Nat.lt_succ_iff_lt_or_eq.1 hj with h | rfl
              · exact HZ.out j u v h hu hv
              · have h1 := HY.out.symm.trans hu; have h2 := HZZ.out.symm.trans hv; cases h1; cases h2; rfl, ⟨_, END⟩, rfl⟩
          case measure => simp [intOf]; omega
        · have HF := hid hF
          have hne : (y != z) = true := by simp [hF]
          all_goals
            clear hF
            go_wp2_with fail
            refine wp_region_ext (by kernel_rfl) (by kernel_rfl) ?_; (repeat (go_big_quiet_step (fail))); refine wpQuiet_nil ?_; intro xw
            go_wp2_with fail
            go_ret
            exact ⟨ret_bool (eqF_false HL.out HY.out HZZ.out (by simpa using HF.out)).symm, END⟩
      · go_wp2_with fail
        go_ret
        exact ⟨ret_bool (eqF_true HL.out fun j u v hu hv => by simpa using HZ.out j u v (by have := (List.getElem?_eq_some_iff.1 hu).1; omega) hu hv).symm, END⟩
  · have hl' : ((xs.length : Int) != (ys.length : Int)) = true := by simp; omega
    have HL := hid hl
    clear hl
    go_enter Tryz.func80, Tryz.ntmps80
    go_wp2_with fail
    go_ret
    exact ⟨ret_bool (eqF_len HL.out).symm, END⟩
set_option maxRecDepth 20000 in
theorem rsameTys_any (s t : Sl Ty) (w : World) (hs : Hid (s.Ok eTy 3 w)) (ht : Hid (t.Ok eTy 3 w)) :
    Gives Tryz.prog 41 #[s.v, t.v] w (.bool (eqF (fun x y => decide (x = y)) s.xs t.xs)) := by
  obtain ⟨a, c, xs⟩ := s
  obtain ⟨a', c', ys⟩ := t
  have hle := hs.out.le
  have hmx := hs.out.max
  have hle' := ht.out.le
  have hmx' := ht.out.max
  simp only at hle hmx hle' hmx'
  show Gives _ _ #[.slice a xs.length c, .slice a' ys.length c'] _ _
  unfold Gives
  by_cases hl : xs.length = ys.length
  · have hl' : ((xs.length : Int) != (ys.length : Int)) = false := by simp [hl]
    have HL := hid hl
    clear hl
    go_enter Tryz.func41, Tryz.ntmps41
    go_wp2_with fail
    go_loopw [5] (fun i wr => ∃ k : Nat, k ≤ xs.length ∧ i = .int .i64 k ∧ (∀ (j : Nat) (x y : Ty), j < k → xs[j]? = some x → ys[j]? = some y → x = y) ∧ ∃ x : Ext w, wr = x.val) (fun i _ => xs.length - (intOf i).toNat)
    case atStart => exact ⟨0, Nat.zero_le _, rfl, fun _ _ _ h => absurd h (by omega), ⟨w, Below.refl _ _⟩, rfl⟩
    case round =>
      obtain ⟨k, hk, rfl, hz, x, rfl⟩ := hrel
      have HZ := hid hz
      clear hz
      by_cases hlt : k < xs.length
      · obtain ⟨y, hy⟩ := getElem?_of_lt hlt
        obtain ⟨hok, b, off, hba, hbl, hc⟩ := hs.out.at_ k y hy
        simp only at hba
        subst hba
        have h0 := hc 0 _ rfl; have h1 := hc 1 _ rfl; have h2 := hc 2 _ rfl; simp only [Nat.add_zero] at h0
        haveI : InW b w := ⟨hbl⟩
        have hlt2 : k < ys.length := by have := HL.out; omega
        obtain ⟨z, hzz⟩ := getElem?_of_lt hlt2
        obtain ⟨hok', b', off', hba', hbl', hc'⟩ := ht.out.at_ k z hzz
        simp only at hba'
        subst hba'
        have g0 := hc' 0 _ rfl; have g1 := hc' 1 _ rfl; have g2 := hc' 2 _ rfl; simp only [Nat.add_zero] at g0
        haveI : InW b' w := ⟨hbl'⟩
        have HY := hid hy
        have HZZ := hid hzz
        clear hc hok hy hbl hc' hok' hzz hbl'
        have hk1 : (0 : Int) ≤ (k : Int) := by omega
        have hk2 : (k : Int) < (xs.length : Int) := by omega
        have hk3 : (k : Int) < (ys.length : Int) := by omega
        by_cases hF : y = z
        · subst hF
          go_wp2_with fail
          refine wp_region_ext (by kernel_rfl) (by kernel_rfl) ?_; (repeat (go_big_quiet_step (fail))); refine wpQuiet_nil ?_; intro xw
          go_wp2_with fail
          go_roundw
          case rel => exact ⟨k + 1, by omega, by go_num, fun j u v hj hu hv => by
              rcases Nat.lt_succ_iff_lt_or_eq.1 hj with h | rfl
              · exact HZ.out j u v h hu hv
              · have h1 := HY.out.symm.trans hu; have h2 := HZZ.out.symm.trans hv; cases h1; cases h2; rfl, ⟨_, END⟩, rfl⟩
          case measure => simp [intOf]; omega
        · have HF := hid hF
          rcases neTy hF with e | ⟨e0, e⟩ | ⟨e0, e1, e⟩
          all_goals
            clear hF
            go_wp2_with fail
            refine wp_region_ext (by kernel_rfl) (by kernel_rfl) ?_; (repeat (go_big_quiet_step (fail))); refine wpQuiet_nil ?_; intro xw
            go_wp2_with fail
            go_ret
            exact ⟨ret_bool (eqF_false HL.out HY.out HZZ.out (by simpa using HF.out)).symm, END⟩
      · go_wp2_with fail
        go_ret
        exact ⟨ret_bool (eqF_true HL.out fun j u v hu hv => by simpa using HZ.out j u v (by have := (List.getElem?_eq_some_iff.1 hu).1; omega) hu hv).symm, END⟩
  · have hl' : ((xs.length : Int) != (ys.length : Int)) = true := by simp; omega
    have HL := hid hl
    clear hl
    go_enter Tryz.func41, Tryz.ntmps41
    go_wp2_with fail
    go_ret
    exact ⟨ret_bool (eqF_len HL.out).symm, END⟩
end Go.Proofs.YthagkijplklemaaGreatDoor
end

section
namespace Go.Proofs.YthagkijplklemaaGreatDoor
open Go.ChangeShapes Go.WideShapes Go.ChangeAt Go.RowKit Go.Sc
set_option maxRecDepth 20000 in
set_option maxHeartbeats 2000000 in
theorem rsameClass_any (x y : Cl) (w : World) (hx : Hid (x.Ok w)) (hy : Hid (y.Ok w)) : Gives Tryz.prog 42 #[x.v, y.v] w (.bool (clEq x y)) := by
  obtain ⟨⟨p1, c1⟩, b1, ⟨ea, ec, xs⟩, f1, v1, ⟨ia, ic, us⟩⟩ := x
  obtain ⟨⟨p2, c2⟩, b2, ⟨ea', ec', ys⟩, f2, v2, ⟨ia', ic', vs⟩⟩ := y
  have hF : ∃ bF, bF = eqF (fun a b => decide (a = b)) f1.xs f2.xs := ⟨_, rfl⟩
  obtain ⟨bF, ebF⟩ := hF
  have hV : ∃ bV, bV = eqF (fun a b => decide (a = b)) v1.xs v2.xs := ⟨_, rfl⟩
  obtain ⟨bV, ebV⟩ := hV
  have hF : Hid (∀ W : World, Below w.heap.size w W → Gives Tryz.prog 41 #[.slice f1.a f1.xs.length f1.c, .slice f2.a f2.xs.length f2.c] W (.bool bF)) := fun W h => by rw [ebF]; exact rsameTys_any f1 f2 W (hx.out.fields.mono h) (hy.out.fields.mono h)
  have hV : Hid (∀ W : World, Below w.heap.size w W → Gives Tryz.prog 80 #[.slice v1.a v1.xs.length v1.c, .slice v2.a v2.xs.length v2.c] W (.bool bV)) := fun W h => by rw [ebV]; exact rints_any v1 v2 W (hx.out.virt.mono h) (hy.out.virt.mono h)
  have hS : Hid (clEq ⟨⟨p1, c1⟩, b1, ⟨ea, ec, xs⟩, f1, v1, ⟨ia, ic, us⟩⟩ ⟨⟨p2, c2⟩, b2, ⟨ea', ec', ys⟩, f2, v2, ⟨ia', ic', vs⟩⟩ = (decide (p1 = p2) && decide (c1 = c2) && ((b1 == b2) && (eqF (fun a b => decide (a = b)) xs ys && (bF && (bV && eqF imEq us vs)))))) := by
    rw [ebF, ebV]; rfl
  clear ebF ebV
  rw [hS.out]
  have hle := hx.out.ext.le
  have hmx := hx.out.ext.max
  have hle' := hy.out.ext.le
  have hmx' := hy.out.ext.max
  have gle := hx.out.impls.le
  have gmx := hx.out.impls.max
  have gle' := hy.out.impls.le
  have gmx' := hy.out.impls.max
  simp only at hle hmx hle' hmx' gle gmx gle' gmx'
  clear hS
  show Gives _ _ #[.agg #[.int .i64 p1, .int .i64 c1, .bool b1, .slice ea xs.length ec, .slice f1.a f1.xs.length f1.c, .slice v1.a v1.xs.length v1.c, .slice ia us.length ic], .agg #[.int .i64 p2, .int .i64 c2, .bool b2, .slice ea' ys.length ec', .slice f2.a f2.xs.length f2.c, .slice v2.a v2.xs.length v2.c, .slice ia' vs.length ic']] _ _
  unfold Gives
  by_cases h1 : p1 = p2
  · subst h1
    by_cases h2 : c1 = c2
    · subst h2
      by_cases h3 : b1 = b2
      · subst h3
        by_cases h4 : xs.length = ys.length
        · have hl' : ((xs.length : Int) != (ys.length : Int)) = false := by simp [h4]
          have HL := hid h4
          clear h4
          cases bF with
          | false =>
            cases b1
            all_goals
              go_enter Tryz.func42, Tryz.ntmps42
              go_wp2_with (first | (go_at_call 41; refine (hF.out _ END).go.mono ?_; rintro e w' ⟨rfl, xw, rfl⟩) | (go_at_call 80; refine (hV.out _ END).go.mono ?_; rintro e w' ⟨rfl, xw, rfl⟩) | fail)
              go_ret
              exact ⟨ret_bool (by simp), END⟩
          | true =>
            cases bV with
            | false =>
              cases b1
              all_goals
                go_enter Tryz.func42, Tryz.ntmps42
                go_wp2_with (first | (go_at_call 41; refine (hF.out _ END).go.mono ?_; rintro e w' ⟨rfl, xw, rfl⟩) | (go_at_call 80; refine (hV.out _ END).go.mono ?_; rintro e w' ⟨rfl, xw, rfl⟩) | fail)
                go_ret
                exact ⟨ret_bool (by simp), END⟩
            | true =>
              by_cases h5 : us.length = vs.length
              · have gl' : ((us.length : Int) != (vs.length : Int)) = false := by simp [h5]
                have GL := hid h5
                clear h5
                cases b1
                all_goals
                  go_enter Tryz.func42, Tryz.ntmps42
                  go_wp2_with (first | (go_at_call 41; refine (hF.out _ END).go.mono ?_; rintro e w' ⟨rfl, xw, rfl⟩) | (go_at_call 80; refine (hV.out _ END).go.mono ?_; rintro e w' ⟨rfl, xw, rfl⟩) | fail)
                  refine gen_w (fun V => Below w.heap.size w V ∧ w.heap.size + 1 < V.heap.size ∧ V.cell? ⟨w.heap.size, 3, none⟩ = some (.slice ea xs.length ec) ∧ V.cell? ⟨w.heap.size + 1, 3, none⟩ = some (.slice ea' ys.length ec') ∧ V.cell? ⟨w.heap.size, 6, none⟩ = some (.slice ia us.length ic) ∧ V.cell? ⟨w.heap.size + 1, 6, none⟩ = some (.slice ia' vs.length ic')) ⟨END, InW.lt, by simp [Ext.cell, alloc_cell_in], by simp [Ext.cell], by simp [Ext.cell, alloc_cell_in], by simp [Ext.cell]⟩ ?_
                  rintro V ⟨hwV, hV2, k1, k2, k3, k4⟩
                  have hwV := hid hwV
                  have hs1 : Hid ((⟨ea, ec, xs⟩ : Sl Rf).Ok eRf 2 V) := hid (hx.out.ext.mono hwV.out)
                  have ht1 : Hid ((⟨ea', ec', ys⟩ : Sl Rf).Ok eRf 2 V) := hid (hy.out.ext.mono hwV.out)
                  have hs2 : Hid ((⟨ia, ic, us⟩ : Sl Im).Ok eIm 3 V) := hid (hx.out.impls.mono hwV.out)
                  have ht2 : Hid ((⟨ia', ic', vs⟩ : Sl Im).Ok eIm 3 V) := hid (hy.out.impls.mono hwV.out)
                  have hA : w.heap.size < V.heap.size := by omega
                  haveI : InW w.heap.size V := ⟨hA⟩
                  haveI : InW (w.heap.size + 1) V := ⟨hV2⟩
                  clear hF hV hx hy
                  go_loopw [5] (fun i wr => ∃ (k : Nat) (x : Ext V), k ≤ xs.length ∧ i = .int .i64 k ∧ Hid (∀ (j : Nat) (u v : Rf), j < k → xs[j]? = some u → ys[j]? = some v → u = v) ∧ wr = x.val) (fun i _ => xs.length - (intOf i).toNat)
                  case atStart => exact ⟨0, ⟨V, Below.refl _ _⟩, Nat.zero_le _, rfl, hid (fun _ _ _ h => absurd h (by omega)), rfl⟩
                  case round =>
                    obtain ⟨k, x, hk, rfl, HZ, rfl⟩ := hrel
                    by_cases hlt : k < xs.length
                    · obtain ⟨y, hy⟩ := getElem?_of_lt hlt
                      have hlt2 : k < ys.length := by have := HL.out; omega
                      obtain ⟨z, hzz⟩ := getElem?_of_lt hlt2
                      obtain ⟨hok, b, off, hba, hbl, hc⟩ := hs1.out.at_ k y hy
                      obtain ⟨hok', b', off', hba', hbl', hc'⟩ := ht1.out.at_ k z hzz
                      simp only at hba hba'
                      subst hba
                      subst hba'
                      have h0 := hc 0 _ rfl; have h1 := hc 1 _ rfl; simp only [Nat.add_zero] at h0
                      have g0 := hc' 0 _ rfl; have g1 := hc' 1 _ rfl; simp only [Nat.add_zero] at g0
                      haveI : InW b V := ⟨hbl⟩
                      haveI : InW b' V := ⟨hbl'⟩
                      have HY := hid hy
                      have HZZ := hid hzz
                      clear hc hok hy hc' hok' hzz hbl'
                      have hk1 : (0 : Int) ≤ (k : Int) := by omega
                      have hk2 : (k : Int) < (xs.length : Int) := by omega
                      have hk3 : (k : Int) < (ys.length : Int) := by omega
                      by_cases hF : y = z
                      · subst hF
                        go_wp2_with fail
                        refine wp_region_ext (by kernel_rfl) (by kernel_rfl) ?_; (repeat (go_big_quiet_step (fail))); refine wpQuiet_nil ?_; intro xw
                        go_wp2_with fail
                        go_roundw
                        case rel => exact ⟨k + 1, ⟨_, END⟩, by omega, by go_num, hid (fun j u v hj hu hv => by
                            rcases Nat.lt_succ_iff_lt_or_eq.1 hj with h | rfl
                            · exact HZ.out j u v h hu hv
                            · have h1 := HY.out.symm.trans hu; have h2 := HZZ.out.symm.trans hv; cases h1; cases h2; rfl), rfl⟩
                        case measure => simp [intOf]; omega
                      · have HF := hid hF
                        rcases neRf hF with e | ⟨e0, e⟩
                        all_goals
                          clear hF
                          go_wp2_with fail
                          refine wp_region_ext (by kernel_rfl) (by kernel_rfl) ?_; (repeat (go_big_quiet_step (fail))); refine wpQuiet_nil ?_; intro xw
                          go_wp2_with fail
                          go_ret
                          have hE := eqF_false (p := fun a b : Rf => decide (a = b)) HL.out HY.out HZZ.out (by simpa using HF.out)
                          exact ⟨ret_bool (by simp [hE]), (hwV.out.trans (Below.mono (show Below V.heap.size V _ from END) hwV.out.size))⟩
                    · have EQ1 := hid (eqF_true (p := fun a b : Rf => decide (a = b)) HL.out fun j u v hu hv => by simpa using HZ.out j u v (by have := (List.getElem?_eq_some_iff.1 hu).1; omega) hu hv)
                      go_wp2_with fail
                      go_loopw [6] (fun i wr => ∃ (k : Nat) (x : Ext V), k ≤ us.length ∧ i = .int .i64 k ∧ Hid (∀ (j : Nat) (u v : Im), j < k → us[j]? = some u → vs[j]? = some v → imEq u v = true) ∧ wr = x.val) (fun i _ => us.length - (intOf i).toNat)
                      case atStart => exact ⟨0, x, Nat.zero_le _, rfl, hid (fun _ _ _ h => absurd h (by omega)), rfl⟩
                      case round =>
                        clear hk hlt
                        obtain ⟨k, x, hk, rfl, HZ, rfl⟩ := hrel
                        by_cases hlt : k < us.length
                        · obtain ⟨y, hy⟩ := getElem?_of_lt hlt
                          have hlt2 : k < vs.length := by have := GL.out; omega
                          obtain ⟨z, hzz⟩ := getElem?_of_lt hlt2
                          obtain ⟨hok, b, off, hba, hbl, hc⟩ := hs2.out.at_ k y hy
                          obtain ⟨hok', b', off', hba', hbl', hc'⟩ := ht2.out.at_ k z hzz
                          simp only at hba hba'
                          subst hba
                          subst hba'
                          have h0 := hc 0 _ rfl; have h1 := hc 1 _ rfl; have h2 := hc 2 _ rfl; simp only [Nat.add_zero] at h0
                          have g0 := hc' 0 _ rfl; have g1 := hc' 1 _ rfl; have g2 := hc' 2 _ rfl; simp only [Nat.add_zero] at g0
                          haveI : InW b V := ⟨hbl⟩
                          haveI : InW b' V := ⟨hbl'⟩
                          have HY := hid hy
                          have HZZ := hid hzz
                          have hM : Hid (∀ W : World, Below V.heap.size V W → Gives Tryz.prog 80 #[.slice y.ms.a y.ms.xs.length y.ms.c, .slice z.ms.a z.ms.xs.length z.ms.c] W (.bool (eqF (fun a b => decide (a = b)) y.ms.xs z.ms.xs))) := fun W h => rints_any y.ms z.ms W (hok.2.2.mono h) (hok'.2.2.mono h)
                          have hk1 : (0 : Int) ≤ (k : Int) := by omega
                          have hk2 : (k : Int) < (us.length : Int) := by omega
                          have hk3 : (k : Int) < (vs.length : Int) := by omega
                          clear hc hok hy hc' hok' hzz hbl'
                          by_cases hF : y.i = z.i
                          · obtain ⟨yi, ym⟩ := y
                            obtain ⟨zi, zm⟩ := z
                            simp only at hF
                            subst hF
                            obtain ⟨bM, ebM⟩ : ∃ bM, bM = eqF (fun a b => decide (a = b)) ym.xs zm.xs := ⟨_, rfl⟩
                            simp only at hM
                            rw [← ebM] at hM
                            have EM : Hid (imEq ⟨yi, ym⟩ ⟨yi, zm⟩ = bM) := by
                              have : imEq ⟨yi, ym⟩ ⟨yi, zm⟩ = bM := by rw [ebM]; simp [imEq, rfEq]
                              exact this
                            clear ebM
                            cases bM with
                            | true =>
                              go_wp2_with fail
                              refine wp_region_ext (by kernel_rfl) (by kernel_rfl) ?_; (repeat (go_big_quiet_step ((go_at_call 80; refine (hM.out _ END).at)))); refine wpQuiet_nil ?_; intro xw
                              go_wp2_with fail
                              go_roundw
                              case rel => exact ⟨k + 1, ⟨_, END⟩, by omega, by go_num, hid (fun j u v hj hu hv => by
                                  rcases Nat.lt_succ_iff_lt_or_eq.1 hj with h | rfl
                                  · exact HZ.out j u v h hu hv
                                  · have h1 := HY.out.symm.trans hu; have h2 := HZZ.out.symm.trans hv; cases h1; cases h2; exact EM.out), rfl⟩
                              case measure => simp [intOf]; omega
                            | false =>
                              go_wp2_with fail
                              refine wp_region_ext (by kernel_rfl) (by kernel_rfl) ?_; (repeat (go_big_quiet_step ((go_at_call 80; refine (hM.out _ END).at)))); refine wpQuiet_nil ?_; intro xw
                              go_wp2_with fail
                              go_ret
                              exact ⟨ret_bool (by simp [eqF_false GL.out HY.out HZZ.out EM.out]), (hwV.out.trans (Below.mono (show Below V.heap.size V _ from END) hwV.out.size))⟩
                          · have HF := hid hF
                            rcases neRf hF with e | ⟨e0, e⟩
                            all_goals
                              clear hF
                              go_wp2_with fail
                              refine wp_region_ext (by kernel_rfl) (by kernel_rfl) ?_; (repeat (go_big_quiet_step ((go_at_call 80; refine (hM.out _ END).at)))); refine wpQuiet_nil ?_; intro xw
                              go_wp2_with fail
                              go_ret
                              have hE := eqF_false (p := imEq) GL.out HY.out HZZ.out (by
                                have : rfEq y.i z.i = false := by
                                  cases hq : rfEq y.i z.i with
                                  | false => rfl
                                  | true =>
                                    exfalso
                                    apply HF.out
                                    simp [rfEq] at hq
                                    cases hyi : y.i
                                    cases hzi : z.i
                                    rw [hyi, hzi] at hq
                                    simp at hq
                                    rw [hq.1, hq.2]
                                simp [imEq, this])
                              exact ⟨ret_bool (by simp [hE]), (hwV.out.trans (Below.mono (show Below V.heap.size V _ from END) hwV.out.size))⟩
                        · have EQ2 := eqF_true (p := imEq) GL.out fun j u v hu hv => HZ.out j u v (by have := (List.getElem?_eq_some_iff.1 hu).1; omega) hu hv
                          go_wp2_with fail
                          go_ret
                          exact ⟨ret_bool (by simp [EQ1.out, EQ2]), (hwV.out.trans (Below.mono (show Below V.heap.size V _ from END) hwV.out.size))⟩
              · have gl' : ((us.length : Int) != (vs.length : Int)) = true := by simp; omega
                have GL := hid h5
                clear h5
                cases b1
                all_goals
                  go_enter Tryz.func42, Tryz.ntmps42
                  go_wp2_with (first | (go_at_call 41; refine (hF.out _ END).go.mono ?_; rintro e w' ⟨rfl, xw, rfl⟩) | (go_at_call 80; refine (hV.out _ END).go.mono ?_; rintro e w' ⟨rfl, xw, rfl⟩) | fail)
                  go_ret
                  exact ⟨ret_bool (by rw [eqF_len GL.out]; simp), END⟩
        · have hl' : ((xs.length : Int) != (ys.length : Int)) = true := by simp; omega
          have HL := hid h4
          clear h4
          cases b1
          all_goals
            go_enter Tryz.func42, Tryz.ntmps42
            go_wp2_with (first | (go_at_call 41; refine (hF.out _ END).go.mono ?_; rintro e w' ⟨rfl, xw, rfl⟩) | (go_at_call 80; refine (hV.out _ END).go.mono ?_; rintro e w' ⟨rfl, xw, rfl⟩) | fail)
            go_ret
            exact ⟨ret_bool (by rw [eqF_len HL.out]; simp), END⟩
      · cases b1 <;> cases b2
        all_goals first
          | exact absurd rfl h3
          | (clear h3
             go_enter Tryz.func42, Tryz.ntmps42
             go_wp2_with (first | (go_at_call 41; refine (hF.out _ END).go.mono ?_; rintro e w' ⟨rfl, xw, rfl⟩) | (go_at_call 80; refine (hV.out _ END).go.mono ?_; rintro e w' ⟨rfl, xw, rfl⟩) | fail)
             go_ret
             exact ⟨ret_bool (by simp), END⟩)
    · have HN := hid h2
      go_enter Tryz.func42, Tryz.ntmps42
      go_wp2_with (first | (go_at_call 41; refine (hF.out _ END).go.mono ?_; rintro e w' ⟨rfl, xw, rfl⟩) | (go_at_call 80; refine (hV.out _ END).go.mono ?_; rintro e w' ⟨rfl, xw, rfl⟩) | fail)
      go_ret
      exact ⟨ret_bool (by simp [HN.out]), END⟩
  · have HN := hid h1
    go_enter Tryz.func42, Tryz.ntmps42
    go_wp2_with (first | (go_at_call 41; refine (hF.out _ END).go.mono ?_; rintro e w' ⟨rfl, xw, rfl⟩) | (go_at_call 80; refine (hV.out _ END).go.mono ?_; rintro e w' ⟨rfl, xw, rfl⟩) | fail)
    go_ret
    exact ⟨ret_bool (by simp [HN.out]), END⟩
end Go.Proofs.YthagkijplklemaaGreatDoor
end
