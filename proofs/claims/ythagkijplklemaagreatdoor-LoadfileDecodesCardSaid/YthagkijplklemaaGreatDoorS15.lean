/- The program's writer: a method. The program's writer: the whole package; written. Plain: what Check of the program comes to; a package that passes the checks of its parts has few bytes. -/
import Derived.Test.YthagkijplklemaaGreatDoorS06
import Derived.Test.YthagkijplklemaaGreatDoorS14
import Derived.IntWalk
import Derived.Deep.RegionLaw
import Derived.Test.YthagkijplklemaaGreatDoorS09
section
namespace Go.Proofs.YthagkijplklemaaGreatDoor
open Go.ChangeShapes Go.WideShapes Go.ChangeAt Go.RowKit Go.Sc
theorem wr_row_ne {U : TypeId} {B p b : Nat} {W : World} {bs : List Int} (h : Wr U B p W bs) (hb : W.heap.size ≤ b) : RowNe p b W := by
  obtain ⟨sv, h1, h2⟩ := h.row
  refine ⟨sv, h1, fun e => ?_⟩
  have := (h2.lt b e).2
  omega
theorem bytes_wx {U : TypeId} {B p : Nat} {W : World} (y : Wx U B p W) {s : Sl Int} (h : Bytes W s) (hne : ∀ b o, s.a = some ⟨b, o, none⟩ → b ≠ p ∧ RowNe p b W) : Bytes y.val s :=
  ⟨h.le, h.max, h.nil, fun k x hx => by
    obtain ⟨h1, b, off, h2, h3, h4⟩ := h.at_ k x hx
    obtain ⟨hb, hr⟩ := hne b off h2
    exact ⟨h1, b, off, h2, Nat.lt_of_lt_of_le h3 y.fr.size, fun j v hv => (World.cell?_of_block (w := W) (a := ⟨b, _, none⟩) (y.fr.row b h3 hb hr).1).trans (h4 j v hv)⟩⟩
theorem vU_cells (l : List Int) : vU l = l.flatMap eByte.cells := by
  unfold vU; induction l with
  | nil => rfl
  | cons a l ih => rw [List.map_cons, List.flatMap_cons, ih]; rfl
theorem opB_byte (f n : Int) : ∀ x ∈ opB f n, 0 ≤ x ∧ x ≤ 255 := by
  intro x hx
  by_cases h0 : f = 0
  · rw [h0, opB0] at hx; cases hx
  · by_cases h1 : f = 1
    · rw [h1, opB1] at hx; simp at hx; omega
    · rw [opBe h0 h1] at hx; simp at hx; omega
theorem insB_byte (i : In) : ∀ x ∈ insB i, 0 ≤ x ∧ x ≤ 255 := by
  intro x hx
  unfold insB at hx
  simp only [List.mem_append] at hx
  rcases hx with ((hx | hx) | hx) | hx
  · simp at hx; omega
  · exact opB_byte _ _ x hx
  · exact opB_byte _ _ x hx
  · exact opB_byte _ _ x hx
/-- The bytes of instructions that Check accepts, as a slice. -/
theorem encode_sl (s : Sl In) (W : World) (hs : Hid (s.Ok eIn 4 W)) (hl : s.xs.length ≤ 256) (hok : Hid (∀ i ∈ s.xs, insE i = 0)) :
    Calls Tryz.prog 188 #[s.v] W fun e w' => ∃ (a : Option Addr) (c : Nat) (y : Ext W), w' = y.val ∧ e = .returned (.tuple #[.slice a (s.xs.flatMap insB).length c, .int .i64 0]) ∧ Hid (Bytes y.val ⟨a, c, s.xs.flatMap insB⟩) ∧ Hid (∀ b o, a = some ⟨b, o, none⟩ → W.heap.size ≤ b) :=
  (encode_any s W hs hl hok).mono fun e w' ⟨v, n, he, hn, ho, hb⟩ => by
    subst hn
    rw [vU_cells] at ho
    obtain ⟨a, c, rfl, h1, h2⟩ := sl_of_own ho (fun x _ => rfl) (fun x hx => by
      obtain ⟨i, _, hi⟩ := List.mem_flatMap.1 hx
      exact insB_byte i x hi)
    exact ⟨a, c, ⟨w', hb⟩, rfl, he, h1, fun b o h => (h2 b o none h).1⟩
def meB (x : Me) : List Int :=
  [((if x.static then 1 else 0) + (if x.abs then 2 else 0)) % 256, x.cls % 256] ++ listB typB x.params.xs ++ typB x.result ++ [x.locals % 256, x.stack % 256] ++ wideB ((x.code.xs.flatMap insB).length : Int) ++ x.code.xs.flatMap insB ++ listB hdB x.hs.xs
theorem hd_each (B p cb : Nat) (s : Sl Hd) (w0 : World) (hB : B = w0.heap.size) (hs : Hid (s.Ok eHd 4 w0)) : Hid (∀ (w1 : World) (bs : List Int), w1.cell? ⟨cb, 0, none⟩ = some (.pointer (some ⟨p, 0, none⟩)) → Kp 5 B p cb w1 → Below B w0 w1 → Wr 5 B p w1 bs → bs.length + (listB hdB s.xs).length ≤ 1099511627776 →
    Puts 5 Tryz.prog 190 #[.pointer (some ⟨p, 0, none⟩), s.v, .func (.func 191) #[] #[.pointer (some ⟨cb, 0, none⟩)]] B p w1 bs (listB hdB s.xs)) :=
  fun w1 bs hc hk hd hw hl => each_hd B p s hdB _ w0 w1 bs hB hs hd hw (by simp only [listB, List.length_cons] at hl; omega) (fun x W cs hm hf hW hl =>
    wmethod1_any B p cb x W cs ((fr_cell hf hk).trans hc) (fr_kp hf hk) hW (by simpa [hdB] using hl))
theorem wide1 (B p b : Nat) (x : Int) (w : World) (bs : List Int) (hk : Kp 5 B p b w) (h0 : w.cell? ⟨b, 0, none⟩ = some (.int .i64 x)) (hw : Wr 5 B p w bs) (hl : bs.length + 2 ≤ 1099511627776) :
    Puts 5 Tryz.prog 189 #[.pointer (some ⟨p, 0, none⟩), .slice (some ⟨b, 0, none⟩) 1 1] B p w bs (wideB x) :=
  (wide_any B p b [x] w bs hk (fun j z hj => by
    match j, hj with
    | 0, hj => simp at hj; subst hj; exact h0) hw (by simpa using hl)).eq (by simp)
/-- At a step of a drawn region: a slice of bytes appended to the writer's row. -/
theorem step_wrS {P : Program} (W : World) {ops : Array Oper} {o : Oper} {a : Act} {K : Act → World → Prop} {Q : Exit → Act → World → Prop} {E : Prop} (hgd : o.guard = none) (s x : Operand) (t : TypeId)
    (ho : o.op = .call { callee := .builtin .append, args := #[s, x], argTypes := #[t, t] })
    (B p : Nat) (e : TypeId) (ht : P.underlying t = some (.slice e)) (hi : (P.info? e).map (fun i => (i.zero, i.size, i.bytes)) = some (some (.int .u8 0), 1, 1))
    (bs : List Int) (hw : Hid (Wr e B p W bs)) (sv : Value) (hsv : W.cell? ⟨p, 0, none⟩ = some sv) (hs : a.eval s = sv) (l : Sl Int) (hl : Hid (Bytes W l)) (hx : a.eval x = l.v) (hn : bs.length + l.xs.length ≤ 1099511627776)
    (h : ∀ (va : Option Addr) (vn vc : Nat) (w1 : World), w1.cell? ⟨p, 0, none⟩ = some sv → w1.frozen? ⟨p, 0, none⟩ = false → Hid (Wr e B p (w1.setCell ⟨p, 0, none⟩ (.slice va vn vc)) (bs ++ l.xs)) → Hid (Fr e B p W (w1.setCell ⟨p, 0, none⟩ (.slice va vn vc))) →
      Hid (∀ b o, Kp e B p b W → w1.cell? ⟨b, o, none⟩ = W.cell? ⟨b, o, none⟩) → K (a.put o.dst (.slice va vn vc)) w1) :
    if Region.wanted o (yielded ops a.tmps) = true then Oper.wp P o a W K Q else E := by
  have hwt : Region.wanted o (yielded ops a.tmps) = true := by simp [Region.wanted, hgd]
  rw [if_pos hwt]
  obtain ⟨sv', hsv', hown⟩ := hw.out.row
  rw [hsv] at hsv'
  cases hsv'
  have hlt := hw.out.lt
  have hle := hw.out.le
  refine wp_appS W s x t ho B e (.int .u8 0) 1 1 ht hi rfl (by decide) sv bs.length (vU bs) hs hown eByte l hl (fun y _ => ⟨rfl, fun u hu => by simp [eByte] at hu; subst hu; rfl⟩) hx (by unfold maxLen; omega) (by omega) (by omega) ?_
  intro v' w1 ho' hg hat
  have hown' : w1.ownsRow B e 1 v' (bs ++ l.xs).length ((bs ++ l.xs).map (Value.int .u8)) := own_eq ho'.out (by simp) (by rw [List.map_append]; congr 1; exact (vU_cells _).symm)
  obtain ⟨R1, R2, R3, R4⟩ := hw.out.step (Below.refl _ _) hsv hown hg.out hat.out hown'
  obtain ⟨va, vc, rfl, _⟩ := own_form hown'
  refine h va _ vc w1 R3 R4 R1 R2 fun b o hk => ?_
  refine World.cell?_of_block (w := W) (a := ⟨b, o, none⟩) (hg.out.block b hk.lt ?_)
  rcases hown.2 with ⟨rfl, _⟩ | ⟨g, cap, cur, rfl, hB, hh, _⟩
  · simp [Value.ownBlock]
  · simp only [Value.ownBlock, ne_eq, Option.some.injEq]
    rintro rfl
    rcases hk.nu with hu | hu
    · omega
    · exact hu _ _ hh
set_option maxRecDepth 100000 in
set_option maxHeartbeats 4000000 in
theorem wmethod_any (B p : Nat) (x : Me) (w0 w : World) (bs : List Int) (hB : B = w0.heap.size) (hx : Hid (x.Ok w0)) (hd : Hid (Below B w0 w)) (hcl : x.code.xs.length ≤ 256) (hco : Hid (∀ i ∈ x.code.xs, insE i = 0))
    (hw : Hid (Wr 5 B p w bs)) (hl : bs.length + (meB x).length ≤ 1099511627776) :
    Puts 5 Tryz.prog 127 #[.pointer (some ⟨p, 0, none⟩), x.v] B p w bs (meB x) := by
  unfold Puts
  haveI : InW p w := ⟨hw.out.lt⟩
  have hBp := hw.out.le
  have hpw := hw.out.lt
  have hE1 := ty_each B p x.params w0 hB hx.out.params
  have hE2 := hd_each B p w.heap.size x.hs w0 hB hx.out.hs
  obtain ⟨f1, hf1⟩ : ∃ f : Int, f = (if x.static then 1 else 0) := ⟨_, rfl⟩
  obtain ⟨f2, hf2⟩ : ∃ f : Int, f = (if x.abs then 2 else 0) := ⟨_, rfl⟩
  have b1 : 0 ≤ f1 := by rw [hf1]; split <;> omega
  have b2 : f1 ≤ 1 := by rw [hf1]; split <;> omega
  have b3 : 0 ≤ f2 := by rw [hf2]; split <;> omega
  have b4 : f2 ≤ 2 := by rw [hf2]; split <;> omega
  have hF1 : Hid (∀ W : World, Gives Tryz.prog 181 #[.bool x.static, .int .i64 1] W (.int .i64 f1)) := fun W => by rw [hf1]; exact flag_any x.static 1 W
  have hF2 : Hid (∀ W : World, Gives Tryz.prog 181 #[.bool x.abs, .int .i64 2] W (.int .i64 f2)) := fun W => by rw [hf2]; exact flag_any x.abs 2 W
  have hEn : Hid (∀ W : World, Below B w0 W → Calls Tryz.prog 188 #[x.code.v] W fun e w' => ∃ (a : Option Addr) (c : Nat) (y : Ext W), w' = y.val ∧ e = .returned (.tuple #[.slice a (x.code.xs.flatMap insB).length c, .int .i64 0]) ∧ Hid (Bytes y.val ⟨a, c, x.code.xs.flatMap insB⟩) ∧ Hid (∀ b o, a = some ⟨b, o, none⟩ → W.heap.size ≤ b)) :=
    fun W hb => encode_sl x.code W (hid (hx.out.code.mono (by rw [← hB]; exact hb))) hcl hco
  have hm : meB x = [(f1 + f2) % 256, x.cls % 256] ++ listB typB x.params.xs ++ typB x.result ++ [x.locals % 256, x.stack % 256] ++ wideB ((x.code.xs.flatMap insB).length : Int) ++ x.code.xs.flatMap insB ++ listB hdB x.hs.xs := by rw [hf1, hf2]; rfl
  rw [hm] at hl ⊢
  clear hf1 hf2 hm
  obtain ⟨cb, hcb⟩ : ∃ l, l = x.code.xs.flatMap insB := ⟨_, rfl⟩
  rw [← hcb] at hl hEn ⊢
  clear hcb
  obtain ⟨l1, hl1⟩ : ∃ l, l = bs ++ [(f1 + f2) % 256, x.cls % 256] := ⟨_, rfl⟩
  obtain ⟨l2, hl2⟩ : ∃ l, l = l1 ++ listB typB x.params.xs := ⟨_, rfl⟩
  obtain ⟨l3, hl3⟩ : ∃ l, l = l2 ++ typB x.result := ⟨_, rfl⟩
  obtain ⟨l4, hl4⟩ : ∃ l, l = l3 ++ [x.locals % 256, x.stack % 256] := ⟨_, rfl⟩
  obtain ⟨l5, hl5⟩ : ∃ l, l = l4 ++ wideB (cb.length : Int) := ⟨_, rfl⟩
  obtain ⟨l6, hl6⟩ : ∃ l, l = l5 ++ cb := ⟨_, rfl⟩
  obtain ⟨l7, hl7⟩ : ∃ l, l = l6 ++ listB hdB x.hs.xs := ⟨_, rfl⟩
  have hall : bs ++ ([(f1 + f2) % 256, x.cls % 256] ++ listB typB x.params.xs ++ typB x.result ++ [x.locals % 256, x.stack % 256] ++ wideB (cb.length : Int) ++ cb ++ listB hdB x.hs.xs) = l7 := by rw [hl7, hl6, hl5, hl4, hl3, hl2, hl1]; simp only [List.append_assoc]
  have hl7' : l7.length ≤ 1099511627776 := by rw [← hall, List.length_append]; exact hl
  have n7 : l7.length = l6.length + (listB hdB x.hs.xs).length := by rw [hl7, List.length_append]
  have n6 : l6.length = l5.length + cb.length := by rw [hl6, List.length_append]
  have n5 : l5.length = l4.length + 2 := by rw [hl5]; simp
  have n4 : l4.length = l3.length + 2 := by rw [hl4]; simp
  have n3 : l3.length = l2.length + (typB x.result).length := by rw [hl3, List.length_append]
  have n2 : l2.length = l1.length + (listB typB x.params.xs).length := by rw [hl2, List.length_append]
  have n1 : l1.length = bs.length + 2 := by rw [hl1]; simp
  have k7 : l6.length + (listB hdB x.hs.xs).length ≤ 1099511627776 := by omega
  have k6 : l5.length + cb.length ≤ 1099511627776 := by omega
  have k5 : l4.length + 2 ≤ 1099511627776 := by omega
  have k4 : l3.length + 2 ≤ 1099511627776 := by omega
  have k3 : l2.length + (typB x.result).length ≤ 1099511627776 := by omega
  have k2 : l1.length + (listB typB x.params.xs).length ≤ 1099511627776 := by omega
  have k1 : bs.length + 2 ≤ 1099511627776 := by omega
  have HL1 := hid hl1.symm
  have HL2 := hid hl2.symm
  have HL3 := hid hl3.symm
  have HL4 := hid hl4.symm
  have HL5 := hid hl5.symm
  have HL6 := hid hl6.symm
  have HL7 := hid hl7.symm
  have HALL := hid hall
  clear hl1 hl2 hl3 hl4 hl5 hl6 hl7 hall n1 n2 n3 n4 n5 n6 n7 hl hl7'
  have hsum : IntKind.i64.wrap (f1 + f2) = f1 + f2 := IntWalk.i64_in _ (by omega)
  have hsum0 : 0 ≤ f1 + f2 := by omega
  go_enter Tryz.func127, Tryz.ntmps127
  go_wp2_with fail
  go_region_held3 (fun w' => w'.cell? ⟨w.heap.size, 0, none⟩ = some (.pointer (some ⟨p, 0, none⟩)) ∧ w'.cell? ⟨w.heap.size + 1, 0, none⟩ = some (.bool x.static) ∧ w'.cell? ⟨w.heap.size + 1, 1, none⟩ = some (.bool x.abs) ∧ w'.cell? ⟨w.heap.size + 1, 2, none⟩ = some (.int .i64 x.cls)) (first | (go_keep) | (refine ⟨?_, ?_, ?_, ?_⟩ <;> simp [Wx.cell, Ext.cell, alloc_cell_in])) (first | (go_at_call 181; ((with_reducible refine (hF1.out _).go.mono ?_); rintro e w' ⟨rfl, xw, rfl⟩)) | (go_at_call 181; ((with_reducible refine (hF2.out _).go.mono ?_); rintro e w' ⟨rfl, xw, rfl⟩)) | (go_at_call 120; refine (put2 B p _ ((f1 + f2)) (x.cls) _ (bs) inferInstance (by simp) (by simp) (by with_reducible repeat' (first | exact Hid.out (by assumption) | refine Wr.alloc ?_ _ | refine Wr.ext _ ?_ | refine Wr.drew ?_)) (k1)).go.mono ?_; rintro e w' ⟨rfl, y, rfl, hy⟩))
  have hy' := hid (hy.eq HL1.out)
  go_wp2_with (first | (go_at_call 128; refine (hE1.out _ l1 (hd.out.trans (Fr.below (p := p) (U := 5) (by with_reducible repeat' (first | exact Fr.refl | exact Hid.out (by assumption) | refine Fr.alloc ?_ _ | refine fr_ext _ ?_ | refine fr_wx _ ?_ | refine Fr.drew ?_)) hBp (by omega))) (by with_reducible repeat' (first | exact Hid.out (by assumption) | refine Wr.alloc ?_ _ | refine Wr.ext _ ?_ | refine Wr.drew ?_)) k2).go.mono ?_; rintro e w' ⟨rfl, z, rfl, hz⟩; replace hz := hid (hz.eq HL2.out)) | (go_at_call 129; refine (typ_any B p x.result _ l2 (hid (by with_reducible repeat' (first | exact Hid.out (by assumption) | refine Wr.alloc ?_ _ | refine Wr.ext _ ?_ | refine Wr.drew ?_))) k3).go.mono ?_; rintro e w' ⟨rfl, z, rfl, hz⟩; replace hz := hid (hz.eq HL3.out)))
  have e1 : z.val.cell? ⟨w.heap.size, 0, none⟩ = some (.pointer (some ⟨p, 0, none⟩)) := by simp [Wx.cell, Ext.cell, alloc_cell_in]
  have e2 : z.val.cell? ⟨w.heap.size + 1, 7, none⟩ = some (.int .i64 x.locals) := by simp [Wx.cell, Ext.cell, alloc_cell_in]
  have e3 : z.val.cell? ⟨w.heap.size + 1, 8, none⟩ = some (.int .i64 x.stack) := by simp [Wx.cell, Ext.cell, alloc_cell_in]
  go_region_held3 (fun w' => w'.cell? ⟨w.heap.size, 0, none⟩ = some (.pointer (some ⟨p, 0, none⟩)) ∧ w'.cell? ⟨w.heap.size + 1, 7, none⟩ = some (.int .i64 x.locals) ∧ w'.cell? ⟨w.heap.size + 1, 8, none⟩ = some (.int .i64 x.stack)) (first | (go_keep) | exact ⟨e1, e2, e3⟩ | (refine ⟨?_, ?_, ?_⟩ <;> simp [Wx.cell, alloc_cell_in, e1, e2, e3])) (first | (go_at_call 120; refine (put2 B p _ (x.locals) (x.stack) _ (l3) inferInstance (by simp) (by simp) (by with_reducible repeat' (first | exact Hid.out (by assumption) | refine Wr.alloc ?_ _ | refine Wr.ext _ ?_ | refine Wr.drew ?_)) (k4)).go.mono ?_; rintro e w' ⟨rfl, y, rfl, hy⟩))
  have hy2 := hid (hy.eq HL4.out)
  have kpc : Kp 5 B p w.heap.size y.val := inferInstance
  go_wp2_with (first | (go_at_call 188; refine (hEn.out _ (hd.out.trans (Fr.below (p := p) (U := 5) (by with_reducible repeat' (first | exact Fr.refl | exact Hid.out (by assumption) | refine Fr.alloc ?_ _ | refine fr_ext _ ?_ | refine fr_wx _ ?_ | refine Fr.drew ?_)) hBp (by omega)))).mono ?_; rintro e w' ⟨ca, cc, u, rfl, rfl, hcb, hcn⟩) | (go_at_call 189; refine (wide1 B p _ (cb.length : Int) _ l4 inferInstance (by simp) (by with_reducible repeat' (first | exact Hid.out (by assumption) | refine Wr.alloc ?_ _ | refine Wr.ext _ ?_ | refine Wr.drew ?_)) k5).go.mono ?_; rintro e w' ⟨rfl, v, rfl, hv⟩))
  have hv' := hid (hv.eq HL5.out)
  have hpy := hy2.out.lt
  have hcb2 : Hid (Bytes v.val ⟨ca, cc, cb⟩) := hid (bytes_wx v (hcb.out.mono END) (fun b o h => ⟨by have := hcn.out b o h; omega, (wr_row_ne hy2.out (hcn.out b o h)).below END⟩))
  have hm1 : v.val.cell? ⟨w.heap.size, 0, none⟩ = some (.pointer (some ⟨p, 0, none⟩)) := by simp [Wx.cell, Ext.cell, alloc_cell_in]
  have hm2 : v.val.cell? ⟨w.heap.size + 1, 10, none⟩ = some (.slice x.hs.a x.hs.xs.length x.hs.c) := by simp [Wx.cell, Ext.cell, alloc_cell_in]
  have hfV : Fr 5 B p w v.val := (by with_reducible repeat' (first | exact Fr.refl | exact Hid.out (by assumption) | refine Fr.alloc ?_ _ | refine fr_ext _ ?_ | refine fr_wx _ ?_ | refine Fr.drew ?_))
  have hkV : Kp 5 B p w.heap.size v.val := inferInstance
  have hkV1 : Kp 5 B p (w.heap.size + 1) v.val := inferInstance
  clear hv
  obtain ⟨V, hV⟩ : ∃ V, V = v.val := ⟨_, rfl⟩
  rw [← hV] at hm1 hm2 hfV hkV hkV1 hv' hcb2 ⊢
  clear hV hcb hcn hy2 hy' hz hy kpc hpy
  obtain ⟨sv, hsv, hsvo⟩ := hv'.out.row
  have hfz := hv'.out.fz
  clear hsvo
  have hFV := hid hfV
  clear hfV
  haveI : InW p V := ⟨hv'.out.lt⟩
  go_region_law ((refine step_wrS V.drew (by rfl) _ _ 22 (by rfl) B p 5 Tryz.underlying22 infU8 l5 (hid (by with_reducible repeat' (first | exact Hid.out (by assumption) | refine Wr.alloc ?_ _ | refine Wr.ext _ ?_ | refine Wr.drew ?_))) sv (by simpa using hsv) (by rfl) ⟨ca, cc, cb⟩ (hid (hcb2.out.mono END)) (by rfl) k6 ?_; intro va vn vc w1 hp1 hp2 hwr hfr hkp; have hw1 : w1.cell? ⟨w.heap.size, 0, none⟩ = some (.pointer (some ⟨p, 0, none⟩)) := (hkp.out w.heap.size 0 (@Kp.drew _ _ _ _ _ hkV)).trans hm1))
  all_goals
    obtain ⟨z2, hz2⟩ : ∃ z2 : Wx 5 B p V.drew, w1.setCell ⟨p, 0, none⟩ (.slice va vn vc) = z2.val := ⟨⟨_, hfr.out⟩, rfl⟩
    rw [hz2] at hwr hfr ⊢
    have hwr2 := hid (hwr.out.eq HL6.out)
    clear hz2 hp1 hp2 hkp hsv hfz hw1
    go_wp2_with (go_at_call 190; refine (hE2.out _ l6 (by simp [Wx.cell, hm1]) inferInstance (hd.out.trans (Fr.below (p := p) (U := 5) (by with_reducible repeat' (first | exact Fr.refl | exact Hid.out (by assumption) | refine Fr.alloc ?_ _ | refine fr_ext _ ?_ | refine fr_wx _ ?_ | refine Fr.drew ?_)) hBp (by omega))) (by with_reducible repeat' (first | exact Hid.out (by assumption) | refine Wr.alloc ?_ _ | refine Wr.ext _ ?_ | refine Wr.drew ?_)) k7).go.mono ?_; rintro e w' ⟨rfl, z3, rfl, hz3⟩)
    go_end0
    refine ⟨rfl, (by with_reducible repeat' (first | exact Fr.refl | exact Hid.out (by assumption) | refine Fr.alloc ?_ _ | refine fr_ext _ ?_ | refine fr_wx _ ?_ | refine Fr.drew ?_)), hz3.eq ((HL7.out.trans HALL.out.symm).trans (by simp))⟩
end Go.Proofs.YthagkijplklemaaGreatDoor
end

section
namespace Go.Proofs.YthagkijplklemaaGreatDoor
open Go.ChangeShapes Go.WideShapes Go.ChangeAt Go.RowKit Go.Sc
theorem cell_new_at (w : World) (cs : Array Value) (t : TypeId) (b o : Nat) (v : Value) (hb : b = w.heap.size) (h : cs[o]? = some v) : (w.alloc (.cells cs t)).cell? ⟨b, o, none⟩ = some v := by subst hb; rw [World.cell?_alloc_new]; exact h
def pkB (p : Pk) : List Int :=
  [83, 67, 49] ++ listB (fun n : Int => [n % 256]) p.aid.xs ++ [p.major % 256, p.minor % 256] ++ listB ipB p.imports.xs ++ listB clB p.classes.xs ++ listB meB p.methods.xs ++ listB typB p.statics.xs ++ listB apB p.applets.xs
/-- The code of every method is one that Check accepts. -/
def codesOk (p : Pk) : Prop := ∀ m ∈ p.methods.xs, m.code.xs.length ≤ 256 ∧ ∀ i ∈ m.code.xs, insE i = 0
theorem ip_each (B p cb : Nat) (s : Sl Ip) (w0 : World) (hB : B = w0.heap.size) (hs : Hid (s.Ok eIp 3 w0)) : Hid (∀ (w1 : World) (bs : List Int), w1.cell? ⟨cb, 0, none⟩ = some (.pointer (some ⟨p, 0, none⟩)) → Kp 5 B p cb w1 → Below B w0 w1 → Wr 5 B p w1 bs → bs.length + (listB ipB s.xs).length ≤ 1099511627776 →
    Puts 5 Tryz.prog 122 #[.pointer (some ⟨p, 0, none⟩), s.v, .func (.func 123) #[] #[.pointer (some ⟨cb, 0, none⟩)]] B p w1 bs (listB ipB s.xs)) :=
  fun w1 bs hc hk hd hw hl => each_ip B p s ipB _ w0 w1 bs hB hs hd hw (by simp only [listB, List.length_cons] at hl; omega) (fun x W cs hm hf hW hl => by
    obtain ⟨j, hj⟩ := List.mem_iff_getElem?.1 hm
    have hlt := hw.lt
    have hle := hw.le
    exact whole1_any B p cb x w0 W cs hB (hs.out.at_ j x hj).1 (hd.trans (hf.below hle (by omega))) ((fr_cell hf hk).trans hc) (fr_kp hf hk) hW hl)
theorem ap_each (B p cb : Nat) (s : Sl Ap) (w0 : World) (hB : B = w0.heap.size) (hs : Hid (s.Ok eAp 3 w0)) : Hid (∀ (w1 : World) (bs : List Int), w1.cell? ⟨cb, 0, none⟩ = some (.pointer (some ⟨p, 0, none⟩)) → Kp 5 B p cb w1 → Below B w0 w1 → Wr 5 B p w1 bs → bs.length + (listB apB s.xs).length ≤ 1099511627776 →
    Puts 5 Tryz.prog 130 #[.pointer (some ⟨p, 0, none⟩), s.v, .func (.func 131) #[] #[.pointer (some ⟨cb, 0, none⟩)]] B p w1 bs (listB apB s.xs)) :=
  fun w1 bs hc hk hd hw hl => each_ap B p s apB _ w0 w1 bs hB hs hd hw (by simp only [listB, List.length_cons] at hl; omega) (fun x W cs hm hf hW hl => by
    obtain ⟨j, hj⟩ := List.mem_iff_getElem?.1 hm
    have hlt := hw.lt
    have hle := hw.le
    exact whole2_any B p cb x w0 W cs hB (hs.out.at_ j x hj).1 (hd.trans (hf.below hle (by omega))) ((fr_cell hf hk).trans hc) (fr_kp hf hk) hW hl)
theorem cl_each (B p : Nat) (s : Sl Cl) (w0 : World) (hB : B = w0.heap.size) (hs : Hid (s.Ok eCl 7 w0)) : Hid (∀ (w1 : World) (bs : List Int), Below B w0 w1 → Wr 5 B p w1 bs → bs.length + (listB clB s.xs).length ≤ 1099511627776 →
    Puts 5 Tryz.prog 124 #[.pointer (some ⟨p, 0, none⟩), s.v, .func (.func 125) #[.pointer (some ⟨p, 0, none⟩)] #[]] B p w1 bs (listB clB s.xs)) :=
  fun w1 bs hd hw hl => each_cl B p s clB w0 w1 bs hB hs hd hw (by simp only [listB, List.length_cons] at hl; omega) (fun x W cs hm hf hW hl => by
    obtain ⟨j, hj⟩ := List.mem_iff_getElem?.1 hm
    have hlt := hw.lt
    have hle := hw.le
    exact wclass_any B p x w0 W cs hB (hs.out.at_ j x hj).1 (hd.trans (hf.below hle (by omega))) hW hl)
theorem me_each (B p : Nat) (s : Sl Me) (w0 : World) (hB : B = w0.heap.size) (hs : Hid (s.Ok eMe 11 w0)) (hco : Hid (∀ m ∈ s.xs, m.code.xs.length ≤ 256 ∧ ∀ i ∈ m.code.xs, insE i = 0)) : Hid (∀ (w1 : World) (bs : List Int), Below B w0 w1 → Wr 5 B p w1 bs → bs.length + (listB meB s.xs).length ≤ 1099511627776 →
    Puts 5 Tryz.prog 126 #[.pointer (some ⟨p, 0, none⟩), s.v, .func (.func 127) #[.pointer (some ⟨p, 0, none⟩)] #[]] B p w1 bs (listB meB s.xs)) :=
  fun w1 bs hd hw hl => each_me B p s meB w0 w1 bs hB hs hd hw (by simp only [listB, List.length_cons] at hl; omega) (fun x W cs hm hf hW hl => by
    obtain ⟨j, hj⟩ := List.mem_iff_getElem?.1 hm
    have hlt := hw.lt
    have hle := hw.le
    exact wmethod_any B p x w0 W cs hB (hs.out.at_ j x hj).1 (hd.trans (hf.below hle (by omega))) (hco.out x hm).1 (hco.out x hm).2 hW hl)
theorem put3 (B p b : Nat) (x y z : Int) (w : World) (bs : List Int) (hk : Kp 5 B p b w) (h0 : w.cell? ⟨b, 0, none⟩ = some (.int .i64 x)) (h1 : w.cell? ⟨b, 1, none⟩ = some (.int .i64 y)) (h2 : w.cell? ⟨b, 2, none⟩ = some (.int .i64 z)) (hw : Wr 5 B p w bs) (hl : bs.length + 3 ≤ 1099511627776) :
    Puts 5 Tryz.prog 120 #[.pointer (some ⟨p, 0, none⟩), .slice (some ⟨b, 0, none⟩) 3 3] B p w bs [x % 256, y % 256, z % 256] :=
  put_any B p b [x, y, z] w bs hk (fun j q hj => by
    match j, hj with
    | 0, hj => simp at hj; subst hj; exact h0
    | 1, hj => simp at hj; subst hj; exact h1
    | 2, hj => simp at hj; subst hj; exact h2) hw hl
set_option maxRecDepth 100000 in
set_option maxHeartbeats 4000000 in
theorem wwhole_any (B p : Nat) (x : Pk) (w0 w : World) (bs : List Int) (hB : B = w0.heap.size) (hx : Hid (x.Ok w0)) (hd : Hid (Below B w0 w)) (hco : Hid (codesOk x))
    (hw : Hid (Wr 5 B p w bs)) (hl : bs.length + (pkB x).length ≤ 1099511627776) :
    Puts 5 Tryz.prog 72 #[.pointer (some ⟨p, 0, none⟩), x.v] B p w bs (pkB x) := by
  unfold Puts
  haveI : InW p w := ⟨hw.out.lt⟩
  have hBp := hw.out.le
  have hpw := hw.out.lt
  have hE1 := ip_each B p w.heap.size x.imports w0 hB hx.out.imports
  have hE2 := cl_each B p x.classes w0 hB hx.out.classes
  have hE3 := me_each B p x.methods w0 hB hx.out.methods hco.out
  have hE4 := ty_each B p x.statics w0 hB hx.out.statics
  have hE5 := ap_each B p w.heap.size x.applets w0 hB hx.out.applets
  obtain ⟨l1, hl1⟩ : ∃ l, l = bs ++ [83, 67, 49] := ⟨_, rfl⟩
  obtain ⟨l2, hl2⟩ : ∃ l, l = l1 ++ listB (fun n : Int => [n % 256]) x.aid.xs := ⟨_, rfl⟩
  obtain ⟨l3, hl3⟩ : ∃ l, l = l2 ++ [x.major % 256, x.minor % 256] := ⟨_, rfl⟩
  obtain ⟨l4, hl4⟩ : ∃ l, l = l3 ++ listB ipB x.imports.xs := ⟨_, rfl⟩
  obtain ⟨l5, hl5⟩ : ∃ l, l = l4 ++ listB clB x.classes.xs := ⟨_, rfl⟩
  obtain ⟨l6, hl6⟩ : ∃ l, l = l5 ++ listB meB x.methods.xs := ⟨_, rfl⟩
  obtain ⟨l7, hl7⟩ : ∃ l, l = l6 ++ listB typB x.statics.xs := ⟨_, rfl⟩
  obtain ⟨l8, hl8⟩ : ∃ l, l = l7 ++ listB apB x.applets.xs := ⟨_, rfl⟩
  have hall : bs ++ pkB x = l8 := by rw [hl8, hl7, hl6, hl5, hl4, hl3, hl2, hl1]; simp only [pkB, List.append_assoc]
  have hl8' : l8.length ≤ 1099511627776 := by rw [← hall, List.length_append]; exact hl
  have n8 : l8.length = l7.length + (listB apB x.applets.xs).length := by rw [hl8, List.length_append]
  have n7 : l7.length = l6.length + (listB typB x.statics.xs).length := by rw [hl7, List.length_append]
  have n6 : l6.length = l5.length + (listB meB x.methods.xs).length := by rw [hl6, List.length_append]
  have n5 : l5.length = l4.length + (listB clB x.classes.xs).length := by rw [hl5, List.length_append]
  have n4 : l4.length = l3.length + (listB ipB x.imports.xs).length := by rw [hl4, List.length_append]
  have n3 : l3.length = l2.length + 2 := by rw [hl3]; simp
  have n2 : l2.length = l1.length + (listB (fun n : Int => [n % 256]) x.aid.xs).length := by rw [hl2, List.length_append]
  have n1 : l1.length = bs.length + 3 := by rw [hl1]; simp
  have k8 : l7.length + (listB apB x.applets.xs).length ≤ 1099511627776 := by omega
  have k7 : l6.length + (listB typB x.statics.xs).length ≤ 1099511627776 := by omega
  have k6 : l5.length + (listB meB x.methods.xs).length ≤ 1099511627776 := by omega
  have k5 : l4.length + (listB clB x.classes.xs).length ≤ 1099511627776 := by omega
  have k4 : l3.length + (listB ipB x.imports.xs).length ≤ 1099511627776 := by omega
  have k3 : l2.length + 2 ≤ 1099511627776 := by omega
  have k2 : l1.length + (listB (fun n : Int => [n % 256]) x.aid.xs).length ≤ 1099511627776 := by omega
  have k1 : bs.length + 3 ≤ 1099511627776 := by omega
  have HL1 := hid hl1.symm
  have HL2 := hid hl2.symm
  have HL3 := hid hl3.symm
  have HL4 := hid hl4.symm
  have HL5 := hid hl5.symm
  have HL6 := hid hl6.symm
  have HL7 := hid hl7.symm
  have HL8 := hid hl8.symm
  have HALL := hid hall
  clear hl1 hl2 hl3 hl4 hl5 hl6 hl7 hl8 hall n1 n2 n3 n4 n5 n6 n7 n8 hl hl8'
  have hA : Hid (∀ w1 : World, Fr 5 B p w w1 → Wr 5 B p w1 l1 → Puts 5 Tryz.prog 121 #[.pointer (some ⟨p, 0, none⟩), x.aid.v] B p w1 l1 (listB (fun n : Int => [n % 256]) x.aid.xs)) :=
    fun w1 hf hW => aid_any B p x.aid w0 w1 l1 hB hx.out.aid (hd.out.trans (hf.below hBp (by omega))) hW k2
  go_enter Tryz.func72, Tryz.ntmps72
  go_wp2_with (first | (go_at_call 120; refine (put3 B p _ 83 67 49 _ bs inferInstance (cell_new_at _ _ _ _ _ _ (by simp) rfl) (cell_new_at _ _ _ _ _ _ (by simp) rfl) (cell_new_at _ _ _ _ _ _ (by simp) rfl) (by with_reducible repeat' (first | exact Hid.out (by assumption) | refine Wr.alloc ?_ _ | refine Wr.ext _ ?_ | refine Wr.drew ?_)) k1).go.mono ?_; rintro e w' ⟨rfl, z, rfl, hz⟩; replace hz := hid (hz.eq (cs := l1) (by simpa using HL1.out))) | (go_at_call 121; refine (hA.out _ (by with_reducible repeat' (first | exact Fr.refl | exact Hid.out (by assumption) | refine Fr.alloc ?_ _ | refine fr_ext _ ?_ | refine fr_wx _ ?_ | refine Fr.drew ?_)) (by with_reducible repeat' (first | exact Hid.out (by assumption) | refine Wr.alloc ?_ _ | refine Wr.ext _ ?_ | refine Wr.drew ?_))).go.mono ?_; rintro e w' ⟨rfl, z, rfl, hz⟩; replace hz := hid (hz.eq HL2.out)))
  have e1 : z.val.cell? ⟨w.heap.size, 0, none⟩ = some (.pointer (some ⟨p, 0, none⟩)) := by simp [Wx.cell, alloc_cell_in]
  have e2 : z.val.cell? ⟨w.heap.size + 1, 1, none⟩ = some (.int .i64 x.major) := by simp [Wx.cell, alloc_cell_in]
  have e3 : z.val.cell? ⟨w.heap.size + 1, 2, none⟩ = some (.int .i64 x.minor) := by simp [Wx.cell, alloc_cell_in]
  go_region_held3 (fun w' => w'.cell? ⟨w.heap.size, 0, none⟩ = some (.pointer (some ⟨p, 0, none⟩)) ∧ w'.cell? ⟨w.heap.size + 1, 1, none⟩ = some (.int .i64 x.major) ∧ w'.cell? ⟨w.heap.size + 1, 2, none⟩ = some (.int .i64 x.minor)) (first | (go_keep) | exact ⟨e1, e2, e3⟩ | (refine ⟨?_, ?_, ?_⟩ <;> simp [Wx.cell, alloc_cell_in, e1, e2, e3])) (first | (go_at_call 120; refine (put2 B p _ (x.major) (x.minor) _ (l2) inferInstance (by simp) (by simp) (by with_reducible repeat' (first | exact Hid.out (by assumption) | refine Wr.alloc ?_ _ | refine Wr.ext _ ?_ | refine Wr.drew ?_)) (k3)).go.mono ?_; rintro e w' ⟨rfl, y, rfl, hy⟩))
  have hy2 := hid (hy.eq HL3.out)
  go_wp2_with (first | (go_at_call 122; refine (hE1.out _ l3 (by simp [Wx.cell, alloc_cell_in]) inferInstance (hd.out.trans (Fr.below (p := p) (U := 5) (by with_reducible repeat' (first | exact Fr.refl | exact Hid.out (by assumption) | refine Fr.alloc ?_ _ | refine fr_ext _ ?_ | refine fr_wx _ ?_ | refine Fr.drew ?_)) hBp (by omega))) (by with_reducible repeat' (first | exact Hid.out (by assumption) | refine Wr.alloc ?_ _ | refine Wr.ext _ ?_ | refine Wr.drew ?_)) k4).go.mono ?_; rintro e w' ⟨rfl, z, rfl, hz⟩; replace hz := hid (hz.eq HL4.out)) | (go_at_call 124; refine (hE2.out _ l4 (hd.out.trans (Fr.below (p := p) (U := 5) (by with_reducible repeat' (first | exact Fr.refl | exact Hid.out (by assumption) | refine Fr.alloc ?_ _ | refine fr_ext _ ?_ | refine fr_wx _ ?_ | refine Fr.drew ?_)) hBp (by omega))) (by with_reducible repeat' (first | exact Hid.out (by assumption) | refine Wr.alloc ?_ _ | refine Wr.ext _ ?_ | refine Wr.drew ?_)) k5).go.mono ?_; rintro e w' ⟨rfl, z, rfl, hz⟩; replace hz := hid (hz.eq HL5.out)) | (go_at_call 126; refine (hE3.out _ l5 (hd.out.trans (Fr.below (p := p) (U := 5) (by with_reducible repeat' (first | exact Fr.refl | exact Hid.out (by assumption) | refine Fr.alloc ?_ _ | refine fr_ext _ ?_ | refine fr_wx _ ?_ | refine Fr.drew ?_)) hBp (by omega))) (by with_reducible repeat' (first | exact Hid.out (by assumption) | refine Wr.alloc ?_ _ | refine Wr.ext _ ?_ | refine Wr.drew ?_)) k6).go.mono ?_; rintro e w' ⟨rfl, z, rfl, hz⟩; replace hz := hid (hz.eq HL6.out)) | (go_at_call 128; refine (hE4.out _ l6 (hd.out.trans (Fr.below (p := p) (U := 5) (by with_reducible repeat' (first | exact Fr.refl | exact Hid.out (by assumption) | refine Fr.alloc ?_ _ | refine fr_ext _ ?_ | refine fr_wx _ ?_ | refine Fr.drew ?_)) hBp (by omega))) (by with_reducible repeat' (first | exact Hid.out (by assumption) | refine Wr.alloc ?_ _ | refine Wr.ext _ ?_ | refine Wr.drew ?_)) k7).go.mono ?_; rintro e w' ⟨rfl, z, rfl, hz⟩; replace hz := hid (hz.eq HL7.out)) | (go_at_call 130; refine (hE5.out _ l7 (by simp [Wx.cell, alloc_cell_in]) inferInstance (hd.out.trans (Fr.below (p := p) (U := 5) (by with_reducible repeat' (first | exact Fr.refl | exact Hid.out (by assumption) | refine Fr.alloc ?_ _ | refine fr_ext _ ?_ | refine fr_wx _ ?_ | refine Fr.drew ?_)) hBp (by omega))) (by with_reducible repeat' (first | exact Hid.out (by assumption) | refine Wr.alloc ?_ _ | refine Wr.ext _ ?_ | refine Wr.drew ?_)) k8).go.mono ?_; rintro e w' ⟨rfl, z, rfl, hz⟩; replace hz := hid (hz.eq HL8.out)))
  go_end0
  exact ⟨rfl, (by with_reducible repeat' (first | exact Fr.refl | exact Hid.out (by assumption) | refine Fr.alloc ?_ _ | refine fr_ext _ ?_ | refine fr_wx _ ?_ | refine Fr.drew ?_)), hz.out.eq HALL.out.symm⟩
end Go.Proofs.YthagkijplklemaaGreatDoor
end

section
namespace Go.Proofs.YthagkijplklemaaGreatDoor
open Go.RowKit Go.Sc
def partsE (p : Pk) : Int :=
  if firstE (fun k x => impE p k x) 0 p.imports.xs = 0 then
    if firstE (fun k x => clsE p k x) 0 p.classes.xs = 0 then
      if firstE (fun _ x => metE p x) 0 p.methods.xs = 0 then
        if allUsable p p.statics.xs = true then
          if firstE (fun k x => appE p k x) 0 p.applets.xs = 0 then (if 2048 < (pkB p).length then 3 else 0)
          else firstE (fun k x => appE p k x) 0 p.applets.xs
        else 22
      else firstE (fun _ x => metE p x) 0 p.methods.xs
    else firstE (fun k x => clsE p k x) 0 p.classes.xs
  else firstE (fun k x => impE p k x) 0 p.imports.xs
def counts (p : Pk) : Prop := p.imports.xs.length ≤ 4 ∧ p.classes.xs.length ≤ 32 ∧ p.methods.xs.length ≤ 64 ∧ p.statics.xs.length ≤ 16 ∧ p.applets.xs.length ≤ 32
def checkE (p : Pk) : Int :=
  if isName p.aid.xs.length = false then 1
  else if isByte p.major = false ∨ isByte p.minor = false then 2
  else if 4 < p.imports.xs.length ∨ 32 < p.classes.xs.length ∨ 64 < p.methods.xs.length ∨ 16 < p.statics.xs.length ∨ 32 < p.applets.xs.length then 3
  else partsE p
theorem firstE_zero {α : Type} {F : Nat → α → Int} : ∀ {xs : List α} {n : Nat}, firstE F n xs = 0 → ∀ j x, xs[j]? = some x → F (n + j) x = 0
  | [], _, _, j, x, h => by simp at h
  | y :: r, n, h, j, x, hx => by
    rw [firstE] at h
    by_cases h0 : F n y = 0
    · rw [if_pos h0] at h
      cases j with
      | zero => simp at hx; subst hx; simpa using h0
      | succ j => have := firstE_zero h j x (by simpa using hx); rwa [Nat.add_comm j 1, ← Nat.add_assoc]
    · rw [if_neg h0] at h; exact absurd h h0
theorem flatMap_le' {α : Type} {F : α → List Int} {m : Nat} : ∀ xs : List α, (∀ x ∈ xs, (F x).length ≤ m) → (xs.flatMap F).length ≤ m * xs.length
  | [], _ => by simp
  | x :: xs, h => by
    have h1 := flatMap_le' xs fun y hy => h y (by simp [hy])
    have hx := h x (by simp)
    rw [List.flatMap_cons, List.length_append, List.length_cons, Nat.mul_succ]; omega
theorem listB_le {α : Type} {F : α → List Int} {m k : Nat} {xs : List α} (h : ∀ x ∈ xs, (F x).length ≤ m) (hk : xs.length ≤ k) : (listB F xs).length ≤ 1 + m * k := by
  have h1 := flatMap_le' xs h
  have h2 : m * xs.length ≤ m * k := Nat.mul_le_mul_left _ hk
  unfold listB; rw [List.length_cons]; omega
theorem imB_le (y : Im) (h : y.ms.xs.length ≤ 16) : (imB y).length ≤ 19 := by
  have := listB_le (F := byteB) (m := 1) (fun x _ => by simp) h
  unfold imB; rw [List.length_append]; simp only [List.length_cons, List.length_nil] at *; omega
theorem clB_le (p : Pk) (k : Int) (x : Cl) (h : clsE p k x = 0) : (clB x).length ≤ 743 := by
  unfold clsE at h
  split at h
  · split at h
    · cases h
    · split at h
      · cases h
      · rename_i _ _ hl
        split at h
        · split at h
          · split at h
            · have him := firstE_zero h
              have e1 := listB_le (F := rfB) (m := 2) (k := 32) (xs := x.ext.xs) (fun _ _ => by simp) (by omega)
              have e2 := listB_le (F := typB) (m := 3) (k := 16) (xs := x.fields.xs) (fun t _ => typB_le t) (by omega)
              have e3 := listB_le (F := byteB) (m := 1) (k := 16) (xs := x.virt.xs) (fun _ _ => by simp) (by omega)
              have e4 := listB_le (F := imB) (m := 19) (k := 32) (xs := x.impls.xs) (fun y hy => imB_le y (by
                obtain ⟨j, hj⟩ := List.mem_iff_getElem?.1 hy
                have := him j y hj
                unfold implE at this
                grind)) (by omega)
              unfold clB; simp only [List.length_append, List.length_cons, List.length_nil] at *; omega
            · contradiction
          · cases h
        · contradiction
  · contradiction
theorem met_small {p : Pk} {m : Me} (h : metE p m = 0) : m.params.xs.length ≤ 6 ∧ m.code.xs.length ≤ 256 ∧ m.hs.xs.length ≤ 8 ∧ ∀ i ∈ m.code.xs, insE i = 0 := by
  unfold metE at h
  split at h
  · cases h
  · split at h
    · cases h
    · split at h
      · cases h
      · split at h
        · cases h
        · split at h
          · split at h
            · cases h
            · rename_i hz
              have hc : m.code.xs = [] := List.eq_nil_of_length_eq_zero (by omega)
              have hh : m.hs.xs = [] := List.eq_nil_of_length_eq_zero (by omega)
              exact ⟨by omega, by simp [hc], by simp [hh], by simp [hc]⟩
          · split at h
            · cases h
            · split at h
              · cases h
              · split at h
                · cases h
                · split at h
                  · rename_i hz
                    refine ⟨by omega, by omega, by omega, fun i hi => ?_⟩
                    obtain ⟨j, hj⟩ := List.mem_iff_getElem?.1 hi
                    have := firstE_zero hz j i hj
                    unfold instrE at this
                    split at this
                    · assumption
                    · contradiction
                  · contradiction
theorem meB_le {p : Pk} {m : Me} (h : metE p m = 0) : (meB m).length ≤ 3421 := by
  obtain ⟨h1, h2, h3, h4⟩ := met_small h
  have e1 := listB_le (F := typB) (m := 3) (k := 6) (xs := m.params.xs) (fun t _ => typB_le t) h1
  have e2 := typB_le m.result
  have e3 := flatMap_le' (F := insB) (m := 13) m.code.xs (fun i _ => insB_le i)
  have e4 := listB_le (F := hdB) (m := 8) (k := 8) (xs := m.hs.xs) (fun _ _ => by simp [hdB]) h3
  unfold meB; simp only [List.length_append, List.length_cons, List.length_nil] at *; omega
theorem ipB_le {p : Pk} {k : Nat} {x : Ip} (h : impE p k x = 0) : (ipB x).length ≤ 19 := by
  have hn : isName x.aid.xs.length = true := by unfold impE at h; grind
  have hl : x.aid.xs.length ≤ 16 := by unfold isName at hn; simp at hn; omega
  have := listB_le (F := fun n : Int => [n % 256]) (m := 1) (fun x _ => by simp) hl
  unfold ipB; rw [List.length_append]; simp only [List.length_cons, List.length_nil] at *; omega
theorem apB_le {p : Pk} {k : Nat} {x : Ap} (h : appE p k x = 0) : (apB x).length ≤ 19 := by
  have hn : isName x.aid.xs.length = true := by unfold appE at h; grind
  have hl : x.aid.xs.length ≤ 16 := by unfold isName at hn; simp at hn; omega
  have := listB_le (F := fun n : Int => [n % 256]) (m := 1) (fun x _ => by simp) hl
  unfold apB; rw [List.length_append]; simp only [List.length_cons, List.length_nil] at *; omega
theorem pkB_le (p : Pk) (ha : p.aid.xs.length ≤ 16) (hc : counts p) (h1 : firstE (fun k x => impE p k x) 0 p.imports.xs = 0) (h2 : firstE (fun k x => clsE p k x) 0 p.classes.xs = 0) (h3 : firstE (fun _ x => metE p x) 0 p.methods.xs = 0) (h5 : firstE (fun k x => appE p k x) 0 p.applets.xs = 0) :
    (pkB p).length ≤ 1000000 ∧ codesOk p := by
  obtain ⟨c1, c2, c3, c4, c5⟩ := hc
  have e0 := listB_le (F := fun n : Int => [n % 256]) (m := 1) (fun x _ => by simp) ha
  have e1 := listB_le (F := ipB) (m := 19) (xs := p.imports.xs) (fun y hy => by
    obtain ⟨j, hj⟩ := List.mem_iff_getElem?.1 hy
    exact ipB_le (firstE_zero h1 j y hj)) c1
  have e2 := listB_le (F := clB) (m := 743) (xs := p.classes.xs) (fun y hy => by
    obtain ⟨j, hj⟩ := List.mem_iff_getElem?.1 hy
    exact clB_le _ _ _ (firstE_zero h2 j y hj)) c2
  have e3 := listB_le (F := meB) (m := 3421) (xs := p.methods.xs) (fun y hy => by
    obtain ⟨j, hj⟩ := List.mem_iff_getElem?.1 hy
    exact meB_le (firstE_zero h3 j y hj)) c3
  have e4 := listB_le (F := typB) (m := 3) (xs := p.statics.xs) (fun y _ => typB_le y) c4
  have e5 := listB_le (F := apB) (m := 19) (xs := p.applets.xs) (fun y hy => by
    obtain ⟨j, hj⟩ := List.mem_iff_getElem?.1 hy
    exact apB_le (firstE_zero h5 j y hj)) c5
  refine ⟨?_, fun m hm => ?_⟩
  · unfold pkB; simp only [List.length_append, List.length_cons, List.length_nil] at *; omega
  · obtain ⟨j, hj⟩ := List.mem_iff_getElem?.1 hm
    have := met_small (firstE_zero h3 j m hj)
    exact ⟨this.2.1, this.2.2.2⟩
/-! bytes -/
def byts (l : List Int) : Prop := ∀ x ∈ l, 0 ≤ x ∧ x ≤ 255
theorem byts_app {a b : List Int} (h : byts a) (k : byts b) : byts (a ++ b) := fun x hx => (List.mem_append.1 hx).elim (h x) (k x)
theorem byts_nil : byts [] := fun x hx => by cases hx
theorem byts_cons {a : Int} {l : List Int} (h : 0 ≤ a ∧ a ≤ 255) (k : byts l) : byts (a :: l) := fun x hx => (List.mem_cons.1 hx).elim (fun e => e ▸ h) (k x)
theorem byts_mod (a : Int) : 0 ≤ a % 256 ∧ a % 256 ≤ 255 := by omega
theorem byts_flat {α : Type} {F : α → List Int} {xs : List α} (h : ∀ x, byts (F x)) : byts (xs.flatMap F) := fun y hy => by
  obtain ⟨x, _, hx⟩ := List.mem_flatMap.1 hy
  exact h x y hx
theorem byts_list {α : Type} {F : α → List Int} {xs : List α} (h : ∀ x, byts (F x)) : byts (listB F xs) := byts_cons (byts_mod _) (byts_flat h)
theorem byts1 (a : Int) : byts [a % 256] := byts_cons (byts_mod a) byts_nil
theorem byts2 (a b : Int) : byts [a % 256, b % 256] := byts_cons (byts_mod a) (byts1 b)
theorem typB_byts (t : Ty) : byts (typB t) := by
  unfold typB
  refine byts_cons (byts_mod _) ?_
  split
  · exact byts2 _ _
  · exact byts_nil
theorem imB_byts (y : Im) : byts (imB y) := byts_app (byts2 _ _) (byts_list fun x => byts1 x)
theorem clB_byts (x : Cl) : byts (clB x) :=
  byts_app (byts_app (byts_app (byts_app (byts_app (byts_cons (by split <;> omega) byts_nil) (byts2 _ _)) (byts_list fun _ => byts2 _ _)) (byts_list typB_byts)) (byts_list fun x => byts1 x)) (byts_list imB_byts)
theorem hdB_byts (h : Hd) : byts (hdB h) := byts_flat fun _ => byts2 _ _
theorem meB_byts (x : Me) : byts (meB x) :=
  byts_app (byts_app (byts_app (byts_app (byts_app (byts_app (byts2 _ _) (byts_list typB_byts)) (typB_byts _)) (byts2 _ _)) (byts2 _ _)) (byts_flat insB_byte)) (byts_list hdB_byts)
theorem pkB_byts (p : Pk) : byts (pkB p) :=
  byts_app (byts_app (byts_app (byts_app (byts_app (byts_app (byts_app (byts_cons (by omega) (byts_cons (by omega) (byts_cons (by omega) byts_nil))) (byts_list fun x => byts1 x)) (byts2 _ _)) (byts_list fun x => byts_app (byts_list fun x => byts1 x) (byts2 _ _))) (byts_list clB_byts)) (byts_list meB_byts)) (byts_list typB_byts)) (byts_list fun x => byts_app (byts_list fun x => byts1 x) (byts2 _ _))
end Go.Proofs.YthagkijplklemaaGreatDoor
end
