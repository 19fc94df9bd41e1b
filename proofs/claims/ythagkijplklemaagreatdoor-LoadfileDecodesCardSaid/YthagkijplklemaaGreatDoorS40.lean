/- Appends next to other steps of one region: the source may be a literal that was built early. The reference's writer: a class. -/
import Derived.Test.YthagkijplklemaaGreatDoorS39
import Derived.Deep.DeepCutAuto
import Derived.Deep.CutBlock
section
namespace Go.Proofs.YthagkijplklemaaGreatDoor
open Go.ChangeShapes Go.WideShapes Go.ChangeAt Go.RowKit Go.Sc
theorem byt_alloc {w : World} {s : Sl Int} (h : Bytes w s) (o : Obj) : Bytes (w.alloc o) s := h.mono ((Below.refl _ _).alloc (Nat.le_refl _) o)
theorem byt_ext {w : World} {s : Sl Int} (x : Ext w) (h : Bytes w s) : Bytes x.val s := h.mono x.below
theorem byt_drew {w : World} {s : Sl Int} (h : Bytes w s) : Bytes w.drew s := h.mono (Below.refl _ _).drew
/-- A literal that was built ahead of an append outlasts it. -/
theorem byt_kept {w w' W0 : World} {a : Nat} {c : Nat} {xs : List Int} {v : Value} {B n : Nat} {us : List Value} (hk : Hid (∀ b, b < w.heap.size → v.ownBlock ≠ some b → w'.heap[b]? = w.heap[b]?)) (hs : w.heap.size ≤ w'.heap.size)
    (ho : Hid (W0.ownsRow B 5 1 v n us)) (h0 : W0.heap.size ≤ a) (h1 : a < w.heap.size) (h : Bytes w ⟨some ⟨a, 0, none⟩, c, xs⟩) : Bytes w' ⟨some ⟨a, 0, none⟩, c, xs⟩ :=
  bytes_same h hs fun b o ha => by
    simp only [Option.some.injEq, Addr.mk.injEq] at ha
    obtain ⟨rfl, _, _⟩ := ha
    exact hk.out a h1 fun e => by have := (ho.out.lt a e).2; omega
theorem byt_mod (n : Int) : byt (n % 256) := by unfold byt; omega
theorem lit1 (W : World) (T : TypeId) (b : Nat) (x : Int) (hb : b = W.heap.size) : Bytes (W.alloc (.cells #[.int .u8 (x % 256)] T)) ⟨some ⟨b, 0, none⟩, 1, [x % 256]⟩ :=
  bytes_new W [x % 256] T b hb (by intro y hy; simp only [List.mem_singleton] at hy; subst hy; exact byt_mod x) (by simp)
theorem lit2 (W : World) (T : TypeId) (b : Nat) (x y : Int) (hb : b = W.heap.size) : Bytes (W.alloc (.cells #[.int .u8 (x % 256), .int .u8 (y % 256)] T)) ⟨some ⟨b, 0, none⟩, 2, [x % 256, y % 256]⟩ :=
  bytes_new W [x % 256, y % 256] T b hb (by intro z hz; simp only [List.mem_cons, List.not_mem_nil, or_false] at hz; rcases hz with rfl | rfl <;> exact byt_mod _) (by simp)
theorem lit3 (W : World) (T : TypeId) (b : Nat) (x y z : Int) (hb : b = W.heap.size) : Bytes (W.alloc (.cells #[.int .u8 (x % 256), .int .u8 (y % 256), .int .u8 (z % 256)] T)) ⟨some ⟨b, 0, none⟩, 3, [x % 256, y % 256, z % 256]⟩ :=
  bytes_new W [x % 256, y % 256, z % 256] T b hb (by intro u hu; simp only [List.mem_cons, List.not_mem_nil, or_false] at hu; rcases hu with rfl | rfl | rfl <;> exact byt_mod _) (by simp)
section
variable (w : World) {ops : Array Oper} {rest : List Oper} {o : Oper} {a : Act} {Q : Exit → Act → World → Prop}
/-- Bytes appended to a row of the call's own; all blocks but the row's stay. -/
theorem wp_apC {K : Act → World → Prop} (s x : Operand) (ho : o.op = .call { callee := .builtin .append, args := #[s, x], argTypes := #[22, 22] })
    (B : Nat) (v : Value) (pre : List Int) (hs : a.eval s = v) (xs : List Int) (n : Nat) (A : Option Addr) (C : Nat) (hx : a.eval x = .slice A n C) (hn : xs.length = n)
    (hown : Hid (w.ownsRow B 5 1 v pre.length (vU pre))) (hb : Hid (Bytes w ⟨A, C, xs⟩)) (hl : pre.length + xs.length ≤ 1099511627776) (hbase : B ≤ w.heap.size)
    (h : ∀ (v' : Value) (y : Gx 5 B w), Hid (y.val.ownsRow B 5 1 v' (pre ++ xs).length (vU (pre ++ xs))) → Hid (∀ b, b < w.heap.size → v.ownBlock ≠ some b → y.val.heap[b]? = w.heap[b]?) → K (a.put o.dst v') y.val) : o.wp Tryz.prog a w K Q := by
  subst hn
  exact wp_appS w s x 22 ho B 5 (.int .u8 0) 1 1 Tryz.underlying22 infU8 rfl (by decide) v pre.length (vU pre) hs hown eByte ⟨A, C, xs⟩ hb (fun y _ => ⟨rfl, fun u hu => by simp [eByte] at hu; subst hu; rfl⟩) hx (by unfold maxLen; simp only; omega) (by simp only; omega) hbase
    fun v' w' h1 h2 _ => h v' ⟨w', Gr.of_grown hown.out h2.out⟩ (hid (own_eq h1.out (by simp) (by rw [← vU_cells]; simp))) (hid fun b hb hne => h2.out.block b hb (Ne.symm hne))
theorem wpList_apC (hgd : o.guard = none) (s x : Operand) (ho : o.op = .call { callee := .builtin .append, args := #[s, x], argTypes := #[22, 22] })
    (B : Nat) (v : Value) (pre : List Int) (hs : a.eval s = v) (xs : List Int) (n : Nat) (A : Option Addr) (C : Nat) (hx : a.eval x = .slice A n C) (hn : xs.length = n)
    (hown : Hid (w.ownsRow B 5 1 v pre.length (vU pre))) (hb : Hid (Bytes w ⟨A, C, xs⟩)) (hl : pre.length + xs.length ≤ 1099511627776) (hbase : B ≤ w.heap.size)
    (h : ∀ (v' : Value) (y : Gx 5 B w), Hid (y.val.ownsRow B 5 1 v' (pre ++ xs).length (vU (pre ++ xs))) → Hid (∀ b, b < w.heap.size → v.ownBlock ≠ some b → y.val.heap[b]? = w.heap[b]?) → wpList Tryz.prog ops Q rest (a.put o.dst v') y.val) : wpList Tryz.prog ops Q (o :: rest) a w :=
  wpList_plain hgd fun _ hK => wp_apC w s x ho B v pre hs xs n A C hx hn hown hb hl hbase fun v' y hy hk => hK _ _ (h v' y hy hk)
theorem step_apC {K : Act → World → Prop} {E : Prop} (hgd : o.guard = none) (s x : Operand) (ho : o.op = .call { callee := .builtin .append, args := #[s, x], argTypes := #[22, 22] })
    (B : Nat) (v : Value) (pre : List Int) (hs : a.eval s = v) (xs : List Int) (n : Nat) (A : Option Addr) (C : Nat) (hx : a.eval x = .slice A n C) (hn : xs.length = n)
    (hown : Hid (w.ownsRow B 5 1 v pre.length (vU pre))) (hb : Hid (Bytes w ⟨A, C, xs⟩)) (hl : pre.length + xs.length ≤ 1099511627776) (hbase : B ≤ w.heap.size)
    (h : ∀ (v' : Value) (y : Gx 5 B w), Hid (y.val.ownsRow B 5 1 v' (pre ++ xs).length (vU (pre ++ xs))) → Hid (∀ b, b < w.heap.size → v.ownBlock ≠ some b → y.val.heap[b]? = w.heap[b]?) → K (a.put o.dst v') y.val) : if Region.wanted o (yielded ops a.tmps) = true then Oper.wp Tryz.prog o a w K Q else E := by
  have hw : Region.wanted o (yielded ops a.tmps) = true := by simp [Region.wanted, hgd]
  rw [if_pos hw]
  exact wp_apC w s x ho B v pre hs xs n A C hx hn hown hb hl hbase h
end
/-- A row that a call handed back outlasts an append to a row that was there before. -/
theorem byt_kept2 {w w' W0 : World} {a : Option Addr} {c N : Nat} {xs : List Int} {v : Value} {B n : Nat} {us : List Value} (hk : Hid (∀ b, b < w.heap.size → v.ownBlock ≠ some b → w'.heap[b]? = w.heap[b]?)) (hs : w.heap.size ≤ w'.heap.size)
    (ho : Hid (W0.ownsRow B 5 1 v n us)) (h0 : W0.heap.size ≤ N) (hf : Hid (∀ b o q, a = some ⟨b, o, q⟩ → N ≤ b ∧ b < w.heap.size)) (h : Bytes w ⟨a, c, xs⟩) : Bytes w' ⟨a, c, xs⟩ :=
  bytes_same h hs fun b o ha => by
    obtain ⟨h1, h2⟩ := hf.out b o none ha
    exact hk.out b h2 fun e => by have := (ho.out.lt b e).2; omega
theorem fr_up {a : Option Addr} {N M M' : Nat} (h : Hid (∀ b o q, a = some ⟨b, o, q⟩ → N ≤ b ∧ b < M)) (hM : M ≤ M') : Hid (∀ b o q, a = some ⟨b, o, q⟩ → N ≤ b ∧ b < M') := hid fun b o q e => ⟨(h.out b o q e).1, Nat.lt_of_lt_of_le (h.out b o q e).2 hM⟩
/-- A call that hands back a row of bytes. -/
abbrev RowOut (tb : List Int) (W : World) : Ending → World → Prop := fun e w' => ∃ (a : Option Addr) (c : Nat) (x : Ext W), e = .returned (.slice a tb.length c) ∧ w' = x.val ∧ Hid (∀ b o q, a = some ⟨b, o, q⟩ → W.heap.size ≤ b ∧ b < x.val.heap.size) ∧ Hid (Bytes x.val ⟨a, c, tb⟩)
theorem GivesR.row {f : FuncId} {args : Array Value} {w : World} {xs : List Int} (h : GivesR f args w (fun v => v) xs) (hb : ∀ x ∈ xs, byt x) : Calls Tryz.prog f args w (RowOut xs w) :=
  h.mono fun _ w' ⟨v, he, ho, hw⟩ => by
    obtain ⟨a, c, rfl, h1, h2⟩ := own_sl ho hb
    exact ⟨a, c, ⟨w', hw⟩, he, rfl, h2, h1⟩
end Go.Proofs.YthagkijplklemaaGreatDoor
end

section
namespace Go.Proofs.YthagkijplklemaaGreatDoor
open Go.ChangeShapes Go.WideShapes Go.ChangeAt Go.RowKit Go.Sc
theorem len_le_listB {α : Type} {F : α → List Int} (h : ∀ x, 1 ≤ (F x).length) : ∀ xs : List α, xs.length ≤ (xs.flatMap F).length
  | [] => by simp
  | x :: xs => by
    have := len_le_listB h xs
    have := h x
    simp only [List.flatMap_cons, List.length_append, List.length_cons]
    omega
theorem flat_take_le {α : Type} {F : α → List Int} (xs : List α) (k : Nat) : ((xs.take k).flatMap F).length ≤ (xs.flatMap F).length := by
  conv => rhs; rw [← List.take_append_drop k xs, List.flatMap_append, List.length_append]
  omega
theorem flat_mem_le {α : Type} {F : α → List Int} {xs : List α} {k : Nat} {y : α} (h : xs[k]? = some y) : (F y).length ≤ (xs.flatMap F).length := by
  have h1 := flat_take_le (F := F) xs (k + 1)
  rw [List.take_add_one, h, List.flatMap_append, List.length_append] at h1
  have h2 : (List.flatMap F (some y).toList).length = (F y).length := by simp
  omega
set_option maxRecDepth 20000 in
set_option maxHeartbeats 4000000 in
theorem rwclass_any (x : Cl) (w : World) (hx : Hid (x.Ok w)) (hl : (clB x).length ≤ 1000000) : GivesR 69 #[x.v] w (fun v => v) (clB x) := by
  have ho1 := hx.out.ext
  have ho2 := hx.out.fields
  have ho3 := hx.out.virt
  have ho4 := hx.out.impls
  obtain ⟨⟨sp, sc⟩, isI, ⟨ea, ec, es⟩, fs, vs, ⟨ia, ic, is⟩⟩ := x
  simp only at ho1 ho2 ho3 ho4
  have hle := ho1.le
  have hmx := ho1.max
  have hle2 := ho4.le
  have hmx2 := ho4.max
  simp only at hle hmx hle2 hmx2
  obtain ⟨f, hf⟩ : ∃ f : Int, f = if isI then 1 else 0 := ⟨_, rfl⟩
  obtain ⟨FT, hFT⟩ : ∃ l, l = listB typB fs.xs := ⟨_, rfl⟩
  obtain ⟨VT, hVT⟩ : ∃ l, l = listB byteB vs.xs := ⟨_, rfl⟩
  have hE : clB ⟨⟨sp, sc⟩, isI, ⟨ea, ec, es⟩, fs, vs, ⟨ia, ic, is⟩⟩ = [f] ++ [sp % 256, sc % 256] ++ [(es.length : Int) % 256] ++ es.flatMap rfB ++ FT ++ VT ++ [(is.length : Int) % 256] ++ is.flatMap imB := by
    rw [hf, hFT, hVT]
    show [_] ++ [sp % 256, sc % 256] ++ ((es.length : Int) % 256 :: es.flatMap rfB) ++ _ ++ _ ++ ((is.length : Int) % 256 :: is.flatMap imB) = _
    simp only [List.append_assoc, List.cons_append, List.nil_append]
  rw [hE] at hl ⊢
  clear hE
  simp only [List.length_append, List.length_cons, List.length_nil] at hl
  have l1 : es.length ≤ 1000000 := by
    have := len_le_listB (F := rfB) (fun x => by simp [rfB]) es
    omega
  have l2 : fs.xs.length ≤ 1000000 := by
    have := len_le_listB (F := typB) (fun x => by simp [typB]) fs.xs
    rw [hFT] at hl
    simp only [listB, List.length_cons] at hl
    omega
  have l3 : vs.xs.length ≤ 1000000 := by
    have := len_le_listB (F := byteB) (fun x => by simp [byteB]) vs.xs
    rw [hVT] at hl
    simp only [listB, List.length_cons] at hl
    omega
  have l4 : is.length ≤ 1000000 := by
    have := len_le_listB (F := imB) (fun x => by simp [imB]) is
    omega
  have lF : FT.length ≤ 1000000 := by omega
  have lV : VT.length ≤ 1000000 := by omega
  have lE : (es.flatMap rfB).length ≤ 1000000 := by omega
  have lI : (is.flatMap imB).length ≤ 1000000 := by omega
  have lF0 : 0 ≤ FT.length := by omega
  clear hl
  obtain ⟨R1, hR1⟩ : ∃ l, l = [f] ++ [sp % 256, sc % 256] ++ [(es.length : Int) % 256] := ⟨_, rfl⟩
  obtain ⟨R2, hR2⟩ : ∃ l, l = R1 ++ es.flatMap rfB := ⟨_, rfl⟩
  obtain ⟨R3, hR3⟩ : ∃ l, l = R2 ++ FT := ⟨_, rfl⟩
  obtain ⟨R4, hR4⟩ : ∃ l, l = R3 ++ VT ++ [(is.length : Int) % 256] := ⟨_, rfl⟩
  obtain ⟨R5, hR5⟩ : ∃ l, l = R4 ++ is.flatMap imB := ⟨_, rfl⟩
  have m1 : R1.length ≤ 1000004 := by rw [hR1]; simp
  have m2 : R2.length ≤ 2000004 := by rw [hR2, List.length_append]; omega
  have m3 : R3.length ≤ 3000004 := by rw [hR3, List.length_append]; omega
  have m4 : R4.length ≤ 4000005 := by rw [hR4]; simp only [List.length_append, List.length_cons, List.length_nil]; omega
  rw [show [f] ++ [sp % 256, sc % 256] ++ [(es.length : Int) % 256] ++ es.flatMap rfB ++ FT ++ VT ++ [(is.length : Int) % 256] ++ is.flatMap imB = R5 by rw [hR5, hR4, hR3, hR2, hR1]]
  have HR1 := hid hR1
  have HR2 := hid hR2
  have HR3 := hid hR3
  have HR4 := hid hR4
  have HR5 := hid hR5
  clear hR1 hR2 hR3 hR4 hR5
  show GivesR _ #[.agg #[.int .i64 sp, .int .i64 sc, .bool isI, .slice ea es.length ec, .slice fs.a fs.xs.length fs.c, .slice vs.a vs.xs.length vs.c, .slice ia is.length ic]] _ _ _
  unfold GivesR
  have gR : Hid (∀ (r : Rf) (W : World), Calls Tryz.prog 115 #[r.v] W (RowOut [r.p % 256, r.c % 256] W)) := fun r W => (rref_w r W).row (rfB_byt r)
  go_enter Tryz.func69, Tryz.ntmps69
  go_upto_region 1 with fail
  refine gen_v (fun V => Below w.heap.size w V ∧ w.heap.size < V.heap.size ∧ (∀ i v, (#[.int .i64 sp, .int .i64 sc, .bool isI, .slice ea es.length ec, .slice fs.a fs.xs.length fs.c, .slice vs.a vs.xs.length vs.c, .slice ia is.length ic] : Array Value)[i]? = some v → V.cell? ⟨w.heap.size, i, none⟩ = some v)) ⟨END, InW.lt, fun i v h => by rw [World.cell?_alloc_new]; exact h⟩ ?_
  rintro V ⟨hwV, hV, hk0⟩
  obtain ⟨B, hB⟩ : ∃ B, B = V.heap.size := ⟨_, rfl⟩
  haveI : LeW B V := ⟨by omega⟩
  have hBV : B ≤ V.heap.size := by omega
  have hwB : w.heap.size < B := by omega
  haveI : Lt w.heap.size B := ⟨hwB⟩
  haveI : InW w.heap.size V := ⟨hV⟩
  have k0 := hk0 0 _ rfl
  have k1 := hk0 1 _ rfl
  have k2 := hk0 2 _ rfl
  have k3 := hk0 3 _ rfl
  have k4 := hk0 4 _ rfl
  have k5 := hk0 5 _ rfl
  have k6 := hk0 6 _ rfl
  have HW := hid hwV
  have HI := hid (ho1.mono hwV)
  have HJ := hid (ho4.mono hwV)
  have gT : Hid (∀ W : World, Below B V W → Calls Tryz.prog 71 #[fs.v] W (RowOut FT W)) := fun W h => by rw [hFT]; exact (rtypes_any fs W (hid ((ho2.mono hwV).mono (hB ▸ h))) l2).row (byts_list typB_byts)
  have gN : Hid (∀ W : World, Below B V W → Calls Tryz.prog 116 #[vs.v] W (RowOut VT W)) := fun W h => by rw [hVT]; exact (rnumbers_any vs W (hid ((ho3.mono hwV).mono (hB ▸ h))) l3).row (byts_list fun x => byts1 x)
  clear hwV ho1 ho2 ho3 ho4 hk0 hFT hVT
  have hO : Hid (∀ (W : World) (b : Nat) (u : Int), b = W.heap.size → B ≤ W.heap.size → Row (W.alloc (.cells #[.int .u8 u] 5)) B (.slice (some ⟨b, 0, none⟩) 1 1) [u]) := hid fun W b u hb h => by subst hb; exact own_lit W B [u] h (by simp)
  have HF := hid hf
  clear hf
  go_upto_if 8 with fail
  go_cut [3] (fun s wx => ∃ g : Gx 5 B V, wx = g.val ∧ Row g.val B s [f])
  case first =>
    cases isI
    all_goals
      go_wp2_with fail
      go_meet
      exact ⟨⟨V.alloc _, Gr.refl.alloc _⟩, rfl, by rw [HF.out]; exact hO.out V _ _ rfl hBV⟩
  case rest =>
    obtain ⟨g, rfl, hr⟩ := hcut
    have HO : Hid (g.val.ownsRow B 5 1 u3 [f].length (vU [f])) := hid hr
    clear hr
    go_upto_region 4 with fail
    go_cut [3] (fun s wx => ∃ g : Gx 5 B V, wx = g.val ∧ Row g.val B s R1)
    case first =>
      have e0 : g.val.cell? ⟨w.heap.size, 0, none⟩ = some (.int .i64 sp) := (Gx.cell g _ _).trans k0
      have e1 : g.val.cell? ⟨w.heap.size, 1, none⟩ = some (.int .i64 sc) := (Gx.cell g _ _).trans k1
      have e3 : g.val.cell? ⟨w.heap.size, 3, none⟩ = some (.slice ea es.length ec) := (Gx.cell g _ _).trans k3
      go_region_held3 (fun w' => w'.cell? ⟨w.heap.size, 0, none⟩ = some (.int .i64 sp) ∧ w'.cell? ⟨w.heap.size, 1, none⟩ = some (.int .i64 sc) ∧ w'.cell? ⟨w.heap.size, 3, none⟩ = some (.slice ea es.length ec)) (first | exact ⟨e0, e1, e3⟩ | (go_keep; done) | ((try dsimp only); refine ⟨?_, ?_, ?_⟩ <;> first | (simp [Ext.cell, alloc_cell_in, Gx.cell, e0, e1, e3]; done))) (first | (go_at_call 115; refine (gR.out ⟨sp, sc⟩ _).mono ?_; rintro e w' ⟨ax, cx, x, rfl, rfl, fx, hx1⟩; have sx := x.size; (try simp at sx)) | (refine step_apC _ (by rfl) _ _ (by rfl) B (u3) ([f]) (by rfl) ([sp % 256, sc % 256]) 2 _ _ (by rfl) (by first | rfl | assumption | simp) (hid (by with_reducible repeat' (first | exact Hid.out (by assumption) | refine own_alloc ?_ _ | refine own_ext _ ?_ | refine own_drew ?_))) (hid (by (repeat' (first | (with_reducible exact Hid.out (by assumption)) | exact lit1 _ _ _ _ (by first | rfl | (simp; done)) | exact lit2 _ _ _ _ _ (by first | rfl | (simp; done)) | exact lit3 _ _ _ _ _ _ (by first | rfl | (simp; done)) | (with_reducible refine byt_alloc ?_ _) | (with_reducible refine byt_ext _ ?_) | (with_reducible refine byt_drew ?_))); first | done | fail)) OM LeW.le ?_; intro v1 y1 hy1 hk1; have sy1 := y1.size; (try simp at sy1)) | (refine step_apC _ (by rfl) _ _ (by rfl) B (v1) ([f] ++ [sp % 256, sc % 256]) (by rfl) ([(es.length : Int) % 256]) 1 _ _ (by rfl) (by first | rfl | assumption | simp) (hid (by with_reducible repeat' (first | exact Hid.out (by assumption) | refine own_alloc ?_ _ | refine own_ext _ ?_ | refine own_drew ?_))) (hid (by first | exact (by (repeat' (first | (with_reducible exact Hid.out (by assumption)) | exact lit1 _ _ _ _ (by first | rfl | (simp; done)) | exact lit2 _ _ _ _ _ (by first | rfl | (simp; done)) | exact lit3 _ _ _ _ _ _ (by first | rfl | (simp; done)) | (with_reducible refine byt_alloc ?_ _) | (with_reducible refine byt_ext _ ?_) | (with_reducible refine byt_drew ?_))); first | done | fail) | exact byt_kept hk1 y1.size HO OM OM (by (repeat' (first | (with_reducible exact Hid.out (by assumption)) | exact lit1 _ _ _ _ (by first | rfl | (simp; done)) | exact lit2 _ _ _ _ _ (by first | rfl | (simp; done)) | exact lit3 _ _ _ _ _ _ (by first | rfl | (simp; done)) | (with_reducible refine byt_alloc ?_ _) | (with_reducible refine byt_ext _ ?_) | (with_reducible refine byt_drew ?_))); first | done | fail))) OM LeW.le ?_; intro v2 y2 hy2 hk2; have sy2 := y2.size; (try simp at sy2)) | fail)
      all_goals (go_wp2_with fail; go_meet; exact ⟨⟨y2.val, (by with_reducible repeat' (first | exact Gr.refl | exact Hid.out (by assumption) | refine Gr.alloc ?_ _ | refine gr_ext _ ?_ | refine gr_gx _ ?_ | refine Gr.drew ?_))⟩, rfl, Row.eq hy2.out (by rw [HR1.out]) (by rw [HR1.out])⟩)
    case rest =>
      obtain ⟨g1, rfl, hr⟩ := hcut
      clear HO HR1 HF hO
      go_wp2_with fail
      go_loopw [3, 4] (fun s i wr => ∃ (k : Nat) (g : Gx 5 B V), k ≤ es.length ∧ i = .int .i64 k ∧ wr = g.val ∧ Row g.val B s (R1 ++ (es.take k).flatMap rfB)) (fun _ i _ => es.length - (intOf i).toNat)
      case atStart => exact ⟨0, g1, Nat.zero_le _, rfl, rfl, by simpa using hr⟩
      case round =>
        obtain ⟨k, g, hk, rfl, rfl, hr⟩ := hrel
        have e3 : g.val.cell? ⟨w.heap.size, 3, none⟩ = some (.slice ea es.length ec) := (Gx.cell g _ _).trans k3
        by_cases hlt : k < es.length
        · obtain ⟨y, hy⟩ := getElem?_of_lt hlt
          obtain ⟨-, b, off, hba, hbl, hc⟩ := HI.out.at_ k y hy
          simp only at hba
          subst hba
          obtain ⟨yp, yc⟩ := y
          haveI : Lt b B := ⟨by rw [hB]; exact hbl⟩
          have h0 : g.val.cell? ⟨b, off + k * 2, none⟩ = some (.int .i64 yp) := (Gx.cell g b (off + k * 2)).trans (by have := hc 0 _ rfl; simpa using this)
          have h1 : g.val.cell? ⟨b, off + k * 2 + 1, none⟩ = some (.int .i64 yc) := (Gx.cell g b (off + k * 2 + 1)).trans (hc 1 _ rfl)
          have hsp : Hid ((es.take (k + 1)).flatMap rfB = (es.take k).flatMap rfB ++ [yp % 256, yc % 256]) := hid (by rw [List.take_add_one, hy]; simp [rfB])
          have hpl : (R1 ++ (es.take k).flatMap rfB).length ≤ 2000004 := by
            have := flat_take_le (F := rfB) es k
            rw [List.length_append]
            omega
          obtain ⟨pre, hpre⟩ : ∃ p, p = R1 ++ (es.take k).flatMap rfB := ⟨_, rfl⟩
          rw [← hpre] at hr hpl
          have HP := hid hpre
          have HO : Hid (g.val.ownsRow B 5 1 u3 pre.length (vU pre)) := hid hr
          haveI : InW b V := ⟨hbl⟩
          clear hc hy hpre hr
          have hk1 : (0 : Int) ≤ (k : Int) := by omega
          have hk2 : (k : Int) < (es.length : Int) := by omega
          go_wp2_with (first | (go_at_call 115; refine (gR.out ⟨yp, yc⟩ _).mono ?_; rintro e w' ⟨ax, cx, x, rfl, rfl, fx, hx1⟩; have sx := x.size; (try simp at sx)) | (at_builtin; refine wpList_apC x.val rfl _ _ rfl B u3 pre rfl [yp % 256, yc % 256] 2 ax cx rfl rfl (hid (own_ext x HO.out)) hx1 (by simp; omega) LeW.le ?_; intro v' z hz hkz) | fail)
          have hR : Row z.val B v' (R1 ++ (es.take (k + 1)).flatMap rfB) := Row.eq hz.out (by rw [hsp.out, HP.out]; simp) (by rw [hsp.out, HP.out]; simp)
          first
            | exact ⟨⟨k + 1, ⟨z.val, (by with_reducible repeat' (first | exact Gr.refl | exact Hid.out (by assumption) | refine Gr.alloc ?_ _ | refine gr_ext _ ?_ | refine gr_gx _ ?_ | refine Gr.drew ?_))⟩, by omega, by go_num, rfl, hR⟩, by simp [intOf]; omega⟩
            | exact ⟨⟨k + 1, by omega, by go_num, ⟨z.val, (by with_reducible repeat' (first | exact Gr.refl | exact Hid.out (by assumption) | refine Gr.alloc ?_ _ | refine gr_ext _ ?_ | refine gr_gx _ ?_ | refine Gr.drew ?_))⟩, rfl, hR⟩, by simp [intOf]; omega⟩
        · obtain rfl : k = es.length := by omega
          rw [List.take_length, ← HR2.out] at hr
          have HO : Hid (g.val.ownsRow B 5 1 u3 R2.length (vU R2)) := hid hr
          have e4 : g.val.cell? ⟨w.heap.size, 4, none⟩ = some (.slice fs.a fs.xs.length fs.c) := (Gx.cell g _ _).trans k4
          clear hr hlt hk
          go_upto_region 10 with (first | (go_at_call 71; refine (gT.out _ (by (repeat' (first | (with_reducible exact Below.refl _ _) | (with_reducible exact Nat.le_refl _) | (with_reducible refine Below.alloc ?_ ?_ _) | (with_reducible refine below_ext _ ?_ ?_) | (with_reducible refine below_gx _ ?_ ?_ ?_) | (with_reducible refine Below.drew ?_) | (exact LeW.le))); first | done | fail)).mono ?_; rintro e w' ⟨ax, cx, x, rfl, rfl, fx, hx1⟩; have sx := x.size; (try simp at sx)) | (at_builtin; refine wpList_apC x.val rfl _ _ rfl B u3 R2 rfl FT FT.length ax cx rfl rfl (hid (own_ext x HO.out)) hx1 (by omega) LeW.le ?_; intro v' z hz hkz) | fail)
          clear hkz
          obtain ⟨g2, hg2⟩ : ∃ g2 : Gx 5 B V, g2.val = z.val := ⟨⟨z.val, (by with_reducible repeat' (first | exact Gr.refl | exact Hid.out (by assumption) | refine Gr.alloc ?_ _ | refine gr_ext _ ?_ | refine gr_gx _ ?_ | refine Gr.drew ?_))⟩, rfl⟩
          rw [← hg2] at hz ⊢
          have HO3 : Hid (g2.val.ownsRow B 5 1 v' R3.length (vU R3)) := hid (own_eq hz.out (by rw [HR3.out]) (by rw [HR3.out]))
          clear hz hg2 HO z hx1 fx e3 e4
          go_cut [3] (fun s wx => ∃ g : Gx 5 B V, wx = g.val ∧ Row g.val B s R4)
          case first =>
            have e5 : g2.val.cell? ⟨w.heap.size, 5, none⟩ = some (.slice vs.a vs.xs.length vs.c) := (Gx.cell g2 _ _).trans k5
            have e6 : g2.val.cell? ⟨w.heap.size, 6, none⟩ = some (.slice ia is.length ic) := (Gx.cell g2 _ _).trans k6
            go_region_held3 (fun w' => w'.cell? ⟨w.heap.size, 5, none⟩ = some (.slice vs.a vs.xs.length vs.c) ∧ w'.cell? ⟨w.heap.size, 6, none⟩ = some (.slice ia is.length ic)) (first | exact ⟨e5, e6⟩ | (go_keep; done) | ((try dsimp only); refine ⟨?_, ?_⟩ <;> first | (simp [Ext.cell, alloc_cell_in, Gx.cell, e5, e6]; done))) (first | (go_at_call 116; refine (gN.out _ (by (repeat' (first | (with_reducible exact Below.refl _ _) | (with_reducible exact Nat.le_refl _) | (with_reducible refine Below.alloc ?_ ?_ _) | (with_reducible refine below_ext _ ?_ ?_) | (with_reducible refine below_gx _ ?_ ?_ ?_) | (with_reducible refine Below.drew ?_) | (exact LeW.le))); first | done | fail)).mono ?_; rintro e w' ⟨ax, cx, x, rfl, rfl, fx, hx1⟩; have sx := x.size; (try simp at sx)) | (refine step_apC _ (by rfl) _ _ (by rfl) B (v') (R3) (by rfl) (VT) VT.length _ _ (by rfl) (by first | rfl | assumption | simp) (hid (by with_reducible repeat' (first | exact Hid.out (by assumption) | refine own_alloc ?_ _ | refine own_ext _ ?_ | refine own_drew ?_))) (hid (by (repeat' (first | (with_reducible exact Hid.out (by assumption)) | exact lit1 _ _ _ _ (by first | rfl | (simp; done)) | exact lit2 _ _ _ _ _ (by first | rfl | (simp; done)) | exact lit3 _ _ _ _ _ _ (by first | rfl | (simp; done)) | (with_reducible refine byt_alloc ?_ _) | (with_reducible refine byt_ext _ ?_) | (with_reducible refine byt_drew ?_))); first | done | fail)) OM LeW.le ?_; intro v1 y1 hy1 hk1; have sy1 := y1.size; (try simp at sy1)) | (refine step_apC _ (by rfl) _ _ (by rfl) B (v1) (R3 ++ VT) (by rfl) ([(is.length : Int) % 256]) 1 _ _ (by rfl) (by first | rfl | assumption | simp) (hid (by with_reducible repeat' (first | exact Hid.out (by assumption) | refine own_alloc ?_ _ | refine own_ext _ ?_ | refine own_drew ?_))) (hid (by first | exact (by (repeat' (first | (with_reducible exact Hid.out (by assumption)) | exact lit1 _ _ _ _ (by first | rfl | (simp; done)) | exact lit2 _ _ _ _ _ (by first | rfl | (simp; done)) | exact lit3 _ _ _ _ _ _ (by first | rfl | (simp; done)) | (with_reducible refine byt_alloc ?_ _) | (with_reducible refine byt_ext _ ?_) | (with_reducible refine byt_drew ?_))); first | done | fail) | exact byt_kept hk1 y1.size HO3 OM OM (by (repeat' (first | (with_reducible exact Hid.out (by assumption)) | exact lit1 _ _ _ _ (by first | rfl | (simp; done)) | exact lit2 _ _ _ _ _ (by first | rfl | (simp; done)) | exact lit3 _ _ _ _ _ _ (by first | rfl | (simp; done)) | (with_reducible refine byt_alloc ?_ _) | (with_reducible refine byt_ext _ ?_) | (with_reducible refine byt_drew ?_))); first | done | fail))) OM LeW.le ?_; intro v2 y2 hy2 hk2; have sy2 := y2.size; (try simp at sy2)) | fail)
            all_goals (go_wp2_with fail; go_meet; exact ⟨⟨y2.val, (by with_reducible repeat' (first | exact Gr.refl | exact Hid.out (by assumption) | refine Gr.alloc ?_ _ | refine gr_ext _ ?_ | refine gr_gx _ ?_ | refine Gr.drew ?_))⟩, rfl, Row.eq hy2.out (by rw [HR4.out]) (by rw [HR4.out])⟩)
          case rest =>
            obtain ⟨g1, rfl, hr⟩ := hcut
            clear HO3 HR4
            go_wp2_with fail
            go_loopw [3, 5] (fun s i wr => ∃ (k : Nat) (g : Gx 5 B V), k ≤ is.length ∧ i = .int .i64 k ∧ wr = g.val ∧ Row g.val B s (R4 ++ (is.take k).flatMap imB)) (fun _ i _ => is.length - (intOf i).toNat)
            case atStart => exact ⟨0, g1, Nat.zero_le _, rfl, rfl, by simpa using hr⟩
            case round =>
              obtain ⟨k, g, hk, rfl, rfl, hr⟩ := hrel
              have e6 : g.val.cell? ⟨w.heap.size, 6, none⟩ = some (.slice ia is.length ic) := (Gx.cell g _ _).trans k6
              by_cases hlt : k < is.length
              · obtain ⟨y, hy⟩ := getElem?_of_lt hlt
                obtain ⟨hok, b, off, hba, hbl, hc⟩ := HJ.out.at_ k y hy
                simp only at hba
                subst hba
                have hml := flat_mem_le (F := imB) hy
                obtain ⟨⟨yp, yc⟩, ms⟩ := y
                haveI : Lt b B := ⟨by rw [hB]; exact hbl⟩
                have h0 : g.val.cell? ⟨b, off + k * 3, none⟩ = some (.int .i64 yp) := (Gx.cell g b (off + k * 3)).trans (by have := hc 0 _ rfl; simpa using this)
                have h1 : g.val.cell? ⟨b, off + k * 3 + 1, none⟩ = some (.int .i64 yc) := (Gx.cell g b (off + k * 3 + 1)).trans (hc 1 _ rfl)
                have h2 : g.val.cell? ⟨b, off + k * 3 + 2, none⟩ = some (.slice ms.a ms.xs.length ms.c) := (Gx.cell g b (off + k * 3 + 2)).trans (hc 2 _ rfl)
                obtain ⟨MT, hMT⟩ : ∃ l, l = listB byteB ms.xs := ⟨_, rfl⟩
                have hsp : Hid ((is.take (k + 1)).flatMap imB = (is.take k).flatMap imB ++ [yp % 256, yc % 256] ++ MT) := hid (by rw [List.take_add_one, hy, hMT]; simp [imB])
                have hpl : (R4 ++ (is.take k).flatMap imB).length ≤ 5000005 := by
                  have := flat_take_le (F := imB) is k
                  rw [List.length_append]
                  omega
                have hml2 : MT.length ≤ 1000000 := by
                  rw [hMT]
                  have : (imB ⟨⟨yp, yc⟩, ms⟩).length = 2 + (listB byteB ms.xs).length := by unfold imB; rw [List.length_append]; rfl
                  omega
                have hms : ms.xs.length ≤ 1000000 := by
                  have := len_le_listB (F := byteB) (fun x => by simp [byteB]) ms.xs
                  rw [hMT] at hml2
                  simp only [listB, List.length_cons] at hml2
                  omega
                have gM : Hid (∀ W : World, Below B V W → Calls Tryz.prog 116 #[ms.v] W (RowOut MT W)) := hid fun W h => by rw [hMT]; exact (rnumbers_any ms W (hid (hok.2.2.mono (hB ▸ h))) hms).row (byts_list fun x => byts1 x)
                obtain ⟨pre, hpre⟩ : ∃ p, p = R4 ++ (is.take k).flatMap imB := ⟨_, rfl⟩
                rw [← hpre] at hr hpl
                have HP := hid hpre
                have HO : Hid (g.val.ownsRow B 5 1 u3 pre.length (vU pre)) := hid hr
                haveI : InW b V := ⟨hbl⟩
                clear hc hy hpre hr hMT hok hml
                have hk1 : (0 : Int) ≤ (k : Int) := by omega
                have hk2 : (k : Int) < (is.length : Int) := by omega
                go_wp2_with fail
                go_region_held3 (fun w' => w'.cell? ⟨w.heap.size, 6, none⟩ = some (.slice (some ⟨b, off, none⟩) is.length ic) ∧ w'.cell? ⟨b, off + k * 3, none⟩ = some (.int .i64 yp) ∧ w'.cell? ⟨b, off + k * 3 + 1, none⟩ = some (.int .i64 yc) ∧ w'.cell? ⟨b, off + k * 3 + 2, none⟩ = some (.slice ms.a ms.xs.length ms.c)) (first | exact ⟨e6, h0, h1, h2⟩ | (go_keep; done) | ((try dsimp only); refine ⟨?_, ?_, ?_, ?_⟩ <;> first | (simp [Ext.cell, Gx.cell, e6, h0, h1, h2]; done))) (first | (go_at_call 115; refine (gR.out ⟨yp, yc⟩ _).mono ?_; rintro e w' ⟨ax, cx, x, rfl, rfl, fx, hx1⟩; have sx := x.size; (try simp at sx)) | (go_at_call 116; refine (gM.out _ (by (repeat' (first | (with_reducible exact Below.refl _ _) | (with_reducible exact Nat.le_refl _) | (with_reducible refine Below.alloc ?_ ?_ _) | (with_reducible refine below_ext _ ?_ ?_) | (with_reducible refine below_gx _ ?_ ?_ ?_) | (with_reducible refine Below.drew ?_) | (exact LeW.le))); first | done | fail)).mono ?_; rintro e w' ⟨ax2, cx2, x2, rfl, rfl, fx2, hx2⟩; have sx2 := x2.size; (try simp at sx2)) | (refine step_apC _ (by rfl) _ _ (by rfl) B (u3) (pre) (by rfl) ([yp % 256, yc % 256]) 2 _ _ (by rfl) (by first | rfl | assumption | simp) (hid (by with_reducible repeat' (first | exact Hid.out (by assumption) | refine own_alloc ?_ _ | refine own_ext _ ?_ | refine own_drew ?_))) (hid (by (repeat' (first | (with_reducible exact Hid.out (by assumption)) | exact lit1 _ _ _ _ (by first | rfl | (simp; done)) | exact lit2 _ _ _ _ _ (by first | rfl | (simp; done)) | exact lit3 _ _ _ _ _ _ (by first | rfl | (simp; done)) | (with_reducible refine byt_alloc ?_ _) | (with_reducible refine byt_ext _ ?_) | (with_reducible refine byt_drew ?_))); first | done | fail)) OM LeW.le ?_; intro v1 y1 hy1 hk1; have sy1 := y1.size; (try simp at sy1)) | (refine step_apC _ (by rfl) _ _ (by rfl) B (v1) (pre ++ [yp % 256, yc % 256]) (by rfl) (MT) MT.length _ _ (by rfl) (by first | rfl | assumption | simp) (hid (by with_reducible repeat' (first | exact Hid.out (by assumption) | refine own_alloc ?_ _ | refine own_ext _ ?_ | refine own_drew ?_))) (hid (by first | exact (by (repeat' (first | (with_reducible exact Hid.out (by assumption)) | exact lit1 _ _ _ _ (by first | rfl | (simp; done)) | exact lit2 _ _ _ _ _ (by first | rfl | (simp; done)) | exact lit3 _ _ _ _ _ _ (by first | rfl | (simp; done)) | (with_reducible refine byt_alloc ?_ _) | (with_reducible refine byt_ext _ ?_) | (with_reducible refine byt_drew ?_))); first | done | fail) | exact byt_kept2 hk1 y1.size HO OM (fr_up fx2 OM) (by (repeat' (first | (with_reducible exact Hid.out (by assumption)) | exact lit1 _ _ _ _ (by first | rfl | (simp; done)) | exact lit2 _ _ _ _ _ (by first | rfl | (simp; done)) | exact lit3 _ _ _ _ _ _ (by first | rfl | (simp; done)) | (with_reducible refine byt_alloc ?_ _) | (with_reducible refine byt_ext _ ?_) | (with_reducible refine byt_drew ?_))); first | done | fail))) OM LeW.le ?_; intro v2 y2 hy2 hk2; have sy2 := y2.size; (try simp at sy2)) | fail)
                all_goals
                  go_wp2_with fail
                  have hR : Row y2.val B v2 (R4 ++ (is.take (k + 1)).flatMap imB) := Row.eq hy2.out (by rw [hsp.out, HP.out]; simp) (by rw [hsp.out, HP.out]; simp)
                  first
                    | exact ⟨⟨k + 1, ⟨y2.val, (by with_reducible repeat' (first | exact Gr.refl | exact Hid.out (by assumption) | refine Gr.alloc ?_ _ | refine gr_ext _ ?_ | refine gr_gx _ ?_ | refine Gr.drew ?_))⟩, by omega, by go_num, rfl, hR⟩, by simp [intOf]; omega⟩
                    | exact ⟨⟨k + 1, by omega, by go_num, ⟨y2.val, (by with_reducible repeat' (first | exact Gr.refl | exact Hid.out (by assumption) | refine Gr.alloc ?_ _ | refine gr_ext _ ?_ | refine gr_gx _ ?_ | refine Gr.drew ?_))⟩, rfl, hR⟩, by simp [intOf]; omega⟩
              · obtain rfl : k = is.length := by omega
                rw [List.take_length, ← HR5.out] at hr
                go_wp2_with fail
                go_ret
                exact ⟨_, rfl, own_base hr (by omega), Below.trans HW.out (Below.mono (g.gr.below hBV) (by omega))⟩
end Go.Proofs.YthagkijplklemaaGreatDoor
end
