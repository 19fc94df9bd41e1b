/- The program's read: a package, or the error of the reader's panic. The program's Decode: what it returns. -/
import Derived.Test.YthagkijplklemaaGreatDoorS30
import Derived.Recover
import Derived.Outline
import Derived.Test.YthagkijplklemaaGreatDoorS29
section
namespace Go.Proofs.YthagkijplklemaaGreatDoor
open Go.ChangeShapes Go.WideShapes Go.ChangeAt Go.RowKit Go.Sc
theorem catch_idle (a b : Nat) (w : World) :
    CallsD Tryz.prog 73 #[.pointer (some ⟨a, 0, none⟩), .pointer (some ⟨b, 0, none⟩)] .returning w fun e u' w' => e = .returned (.tuple #[]) ∧ u' = .returning ∧ w' = w := by
  refine callsD_of_wpS Tryz.func73 rfl fun c₀ cs hu => ?_
  apply wpS_seq
  apply wpS_region
  simp [wpOpsS, go_sem, recoverD, hu, Tryz.ntmps73, Exit.thenS]
  refine wpS_of_wp ?_
  change Code.wp _ _ _ { tmps := #[.pointer (some ⟨a, 0, none⟩), .pointer (some ⟨b, 0, none⟩), .nilIface, undef, undef, .nilIface, undef, undef, undef, undef, undef, undef, undef, undef, undef, undef, undef, undef], defers := [] } w
  go_wp2
  cases c₀
  simp_all [bodyPostS, results, Tryz.results73]
/-- The world behind a panic that is caught. -/
def caught (a b : Nat) (c : Int) (w : World) : World := (((((((((w.setCell ⟨a, 0, none⟩ (.slice none 0 0)).setCell ⟨a, 1, none⟩ (.int .i64 0)).setCell ⟨a, 2, none⟩ (.int .i64 0)).setCell ⟨a, 3, none⟩ (.slice none 0 0)).setCell ⟨a, 4, none⟩ (.slice none 0 0)).setCell ⟨a, 5, none⟩ (.slice none 0 0)).setCell ⟨a, 6, none⟩ (.slice none 0 0)).setCell ⟨a, 7, none⟩ (.slice none 0 0)).setCell ⟨b, 0, none⟩ (.int .i64 c))
set_option maxRecDepth 20000 in
set_option maxHeartbeats 1000000 in
theorem catch_panicking (a b : Nat) (c : Int) (older : List PanicEntry) (w : World) (h0 : w.cell? ⟨a, 0, none⟩ = some (.slice none 0 0)) (f0 : w.frozen? ⟨a, 0, none⟩ = false) (h1 : w.cell? ⟨a, 1, none⟩ = some (.int .i64 0)) (f1 : w.frozen? ⟨a, 1, none⟩ = false) (h2 : w.cell? ⟨a, 2, none⟩ = some (.int .i64 0)) (f2 : w.frozen? ⟨a, 2, none⟩ = false) (h3 : w.cell? ⟨a, 3, none⟩ = some (.slice none 0 0)) (f3 : w.frozen? ⟨a, 3, none⟩ = false) (h4 : w.cell? ⟨a, 4, none⟩ = some (.slice none 0 0)) (f4 : w.frozen? ⟨a, 4, none⟩ = false) (h5 : w.cell? ⟨a, 5, none⟩ = some (.slice none 0 0)) (f5 : w.frozen? ⟨a, 5, none⟩ = false) (h6 : w.cell? ⟨a, 6, none⟩ = some (.slice none 0 0)) (f6 : w.frozen? ⟨a, 6, none⟩ = false) (h7 : w.cell? ⟨a, 7, none⟩ = some (.slice none 0 0)) (f7 : w.frozen? ⟨a, 7, none⟩ = false) (g0 : w.cell? ⟨b, 0, none⟩ = some (.int .i64 0)) (g1 : w.frozen? ⟨b, 0, none⟩ = false) (hba : ¬ b = a) :
    CallsD Tryz.prog 73 #[.pointer (some ⟨a, 0, none⟩), .pointer (some ⟨b, 0, none⟩)] (.panicking ({ v := .iface 101 (.int .i64 c), recovered := false } :: older)) w fun e u' w' =>
      e = .returned (.tuple #[]) ∧ u' = .panicking ({ v := .iface 101 (.int .i64 c), recovered := true } :: older) ∧ w' = caught a b c w := by
  have hta : ∀ W : World, (Instr.typeAssert (.iface 101 (.int .i64 c)) 20 101 true).run Tryz.prog W = .ok (.tuple #[.int .i64 c, .bool true]) W := fun _ => by kernel_rfl
  refine callsD_of_wpS Tryz.func73 rfl fun c₀ cs hu => ?_
  apply wpS_seq
  apply wpS_region
  simp [wpOpsS, go_sem, recoverD, hu, Tryz.ntmps73, Exit.thenS]
  refine wpS_of_wp ?_
  change Code.wp _ _ _ { tmps := #[.pointer (some ⟨a, 0, none⟩), .pointer (some ⟨b, 0, none⟩), (.iface 101 (.int .i64 c)), undef, undef, (.iface 101 (.int .i64 c)), undef, undef, undef, undef, undef, undef, undef, undef, undef, undef, undef, undef], defers := [] } w
  go_wp2
  cases c₀
  simp [bodyPostS, results, Tryz.results73, caught]
abbrev zeroPk : Value := .agg #[.slice none 0 0, .int .i64 0, .int .i64 0, .slice none 0 0, .slice none 0 0, .slice none 0 0, .slice none 0 0, .slice none 0 0]
/-- What read returns. -/
def ReadOut (w : World) (r : Except Int (Pk × List Int)) (e : Ending) (w' : World) : Prop :=
  Below w.heap.size w w' ∧ (∀ x rest, r = .ok (x, rest) → ∃ v, e = .returned (.tuple #[v, .int .i64 0]) ∧ RepPk w.heap.size w' v x) ∧ ∀ c, r = .error c → e = .returned (.tuple #[zeroPk, .int .i64 c])
theorem rd_start (w : World) (s : Sl Int) (o1 o2 : Obj) (hs : Bytes w s) (hlt : ∀ b o q, s.a = some ⟨b, o, q⟩ → b < w.heap.size) :
    Rd (w.heap.size + 1 + 1) (((w.alloc o1).alloc o2).alloc (.cells #[.slice s.a s.xs.length s.c] 104)) s.xs := by
  have hx : w.heap.size + 1 + 1 = ((w.alloc o1).alloc o2).heap.size := by simp
  refine ⟨by simp, ?_, s.a, s.c, ?_, ?_, fun b o q h => by have := hlt b o q h; omega⟩
  · rw [hx]; exact World.frozen?_alloc_new _ _ _ _
  · exact cell_new_at _ _ _ _ _ _ hx rfl
  · have : Below w.heap.size w (((w.alloc o1).alloc o2).alloc (.cells #[.slice s.a s.xs.length s.c] 104)) := END
    exact hs.mono this
theorem start_1 {w : World} {cs : Array Value} {t : TypeId} {o2 o3 : Obj} (y : Px (w.heap.size + 1 + 1) (((w.alloc (.cells cs t)).alloc o2).alloc o3)) (i : Nat) :
    y.val.cell? ⟨w.heap.size, i, none⟩ = cs[i]? ∧ y.val.frozen? ⟨w.heap.size, i, none⟩ = false := by
  have h : y.val.heap[w.heap.size]? = (w.alloc (.cells cs t)).heap[w.heap.size]? := by
    rw [y.fp.block _ (by simp only [World.size_alloc]; exact Nat.lt_of_lt_of_le (Nat.lt_succ_self _) (by omega)) (by omega)]
    rw [Below.heap_alloc _ _ _ (by simp only [World.size_alloc]; omega), Below.heap_alloc _ _ _ (by simp)]
  exact ⟨(World.cell?_of_block (a := ⟨w.heap.size, i, none⟩) h).trans (World.cell?_alloc_new _ _ _ _), (World.frozen?_of_block (a := ⟨w.heap.size, i, none⟩) h).trans (World.frozen?_alloc_new _ _ _ _)⟩
theorem start_2 {w : World} {cs : Array Value} {t : TypeId} {o1 o3 : Obj} (y : Px (w.heap.size + 1 + 1) (((w.alloc o1).alloc (.cells cs t)).alloc o3)) (i : Nat) :
    y.val.cell? ⟨w.heap.size + 1, i, none⟩ = cs[i]? ∧ y.val.frozen? ⟨w.heap.size + 1, i, none⟩ = false := by
  have h1 : (w.alloc o1).heap.size = w.heap.size + 1 := by simp
  have h : y.val.heap[w.heap.size + 1]? = ((w.alloc o1).alloc (.cells cs t)).heap[w.heap.size + 1]? := by
    rw [y.fp.block _ (by simp) (by omega)]
    rw [Below.heap_alloc _ _ _ (by simp)]
  refine ⟨(World.cell?_of_block (a := ⟨w.heap.size + 1, i, none⟩) h).trans ?_, (World.frozen?_of_block (a := ⟨w.heap.size + 1, i, none⟩) h).trans ?_⟩
  · rw [← h1]; exact World.cell?_alloc_new _ _ _ _
  · rw [← h1]; exact World.frozen?_alloc_new _ _ _ _
theorem start_below {w : World} {o1 o2 o3 : Obj} (y : Px (w.heap.size + 1 + 1) (((w.alloc o1).alloc o2).alloc o3)) : Below w.heap.size w y.val := by
  have h : Below w.heap.size w (((w.alloc o1).alloc o2).alloc o3) := END
  exact h.trans (y.fp.below (by omega) (by simp only [World.size_alloc]; omega))
set_option maxRecDepth 20000 in
set_option maxHeartbeats 2000000 in
theorem read_any (s : Sl Int) (w : World) (hs : Hid (Bytes w s)) (hlt : Hid (∀ b o q, s.a = some ⟨b, o, q⟩ → b < w.heap.size)) : Calls Tryz.prog 38 #[s.v] w (ReadOut w (pkP s.xs)) := by
  have hW : Hid (∀ W : World, Rd (w.heap.size + 1 + 1) W s.xs → Parses 101 Tryz.prog 74 #[.pointer (some ⟨w.heap.size + 1 + 1, 0, none⟩)] (w.heap.size + 1 + 1) W (pkP s.xs) RepPk) := fun W h => rwhole_any _ W _ h
  have hmf : ∀ (fn : Fn) (first cap : Array Value) (w : World), (Instr.makeFunc fn first cap).run Tryz.prog w = .ok (.func fn first cap) w := fun _ _ _ _ => rfl
  have hrd := fun o1 o2 => hid (rd_start w s o1 o2 hs.out hlt.out)
  show Calls _ _ #[.slice s.a s.xs.length s.c] _ _
  go_enter_defers Tryz.func38, Tryz.ntmps38
  go_wp2_with (go_at_call 74; refine (hW.out _ (hrd _ _).out).go (fun x r2 v y hr hx hR2 => ?_) (fun c y hr => ?_); obtain ⟨q, _, rfl, _⟩ := hx.out; clear hR2;  obtain ⟨⟨k0, z0⟩, ⟨k1, z1⟩, ⟨k2, z2⟩, ⟨k3, z3⟩, ⟨k4, z4⟩, ⟨k5, z5⟩, ⟨k6, z6⟩, ⟨k7, z7⟩⟩ := And.intro (start_1 y 0) (And.intro (start_1 y 1) (And.intro (start_1 y 2) (And.intro (start_1 y 3) (And.intro (start_1 y 4) (And.intro (start_1 y 5) (And.intro (start_1 y 6) (start_1 y 7))))))); obtain ⟨n0, m0⟩ := start_2 y 0; simp only [List.getElem?_toArray, List.getElem?_cons_zero, List.getElem?_cons_succ] at k0 k1 k2 k3 k4 k5 k6 k7 n0)
  · refine leaves_cons (f := 73) (args := #[.pointer (some ⟨w.heap.size, 0, none⟩), .pointer (some ⟨w.heap.size + 1, 0, none⟩)]) (by simp) (by simp [go_sem]) ?_
    refine (catch_idle _ _ _).mono ?_
    rintro e u' w' ⟨rfl, rfl, rfl⟩
    refine ⟨.tuple #[q.v, .int .i64 0], ?_, ?_⟩
    · simp [results, Tryz.results38, go_sem, k0, k1, k2, k3, k4, k5, k6, k7, n0]
    · have hbel := hid (start_below y)
      refine ⟨ENDX, fun x' rest h => ?_, fun c h => by rw [hr.out] at h; cases h⟩
      rw [hr.out] at h
      cases h
      exact ⟨_, rfl, (((hx).out.keep (by (with_reducible repeat' (first | exact Kept.refl | refine Kept.set ?_ ?_ | refine Kept.px _ ?_ ?_ | refine Kept.alloc ?_ _ | refine Kept.ext _ ?_)); (all_goals (first | omega | (simp; done) | (simp; omega))))).from_ OM)⟩
  · have hba : ¬ w.heap.size + 1 = w.heap.size := by omega
    obtain ⟨⟨k0, z0⟩, ⟨k1, z1⟩, ⟨k2, z2⟩, ⟨k3, z3⟩, ⟨k4, z4⟩, ⟨k5, z5⟩, ⟨k6, z6⟩, ⟨k7, z7⟩⟩ := And.intro (start_1 y 0) (And.intro (start_1 y 1) (And.intro (start_1 y 2) (And.intro (start_1 y 3) (And.intro (start_1 y 4) (And.intro (start_1 y 5) (And.intro (start_1 y 6) (start_1 y 7)))))))
    obtain ⟨n0, m0⟩ := start_2 y 0
    refine leaves_cons (f := 73) (args := #[.pointer (some ⟨w.heap.size, 0, none⟩), .pointer (some ⟨w.heap.size + 1, 0, none⟩)]) (by simp) (by simp [go_sem]) ?_
    refine (catch_panicking w.heap.size (w.heap.size + 1) c [] y.val k0 z0 k1 z1 k2 z2 k3 z3 k4 z4 k5 z5 k6 z6 k7 z7 n0 m0 hba).mono ?_
    rintro e u' w' ⟨rfl, rfl, rfl⟩
    refine ⟨.tuple #[zeroPk, .int .i64 c], ?_, ?_⟩
    · simp [results, Tryz.results38, go_sem, caught, k0, k1, k2, k3, k4, k5, k6, k7, n0]
    · have hbel := hid (start_below y)
      refine ⟨by unfold caught; exact ENDX, fun x' rest h => (by rw [hr.out] at h; cases h), fun c h => by rw [hr.out] at h; cases h; rfl⟩
end Go.Proofs.YthagkijplklemaaGreatDoor
end

section
namespace Go.Proofs.YthagkijplklemaaGreatDoor
open Go.ChangeShapes Go.WideShapes Go.ChangeAt Go.RowKit Go.Sc
def DecodeOut (w : World) (r : Except Int Pk) (e : Ending) (w' : World) : Prop :=
  Below w.heap.size w w' ∧ (∀ x, r = .ok x → ∃ p : Pk, e = .returned (.tuple #[p.v, .int .i64 0]) ∧ p.Ok w' ∧ Pk.er p = x) ∧ ∀ c, r = .error c → c ≠ 0 ∧ e = .returned (.tuple #[zeroPk, .int .i64 c])
theorem DecodeOut.err {w w' : World} {r : Except Int Pk} {c : Int} (hb : Below w.heap.size w w') (hr : r = .error c) (hc : c ≠ 0) : DecodeOut w r (.returned (.tuple #[zeroPk, .int .i64 c])) w' :=
  ⟨hb, fun x h => (by rw [hr] at h; cases h), fun d h => by rw [hr] at h; cases h; exact ⟨hc, rfl⟩⟩
theorem DecodeOut.ret {w w' : World} {r : Except Int Pk} {p : Pk} (hb : Below w.heap.size w w') (hr : r = .ok (Pk.er p)) (hp : p.Ok w') : DecodeOut w r (.returned (.tuple #[p.v, .int .i64 0])) w' :=
  ⟨hb, fun x h => (by rw [hr] at h; cases h; exact ⟨p, rfl, hp, rfl⟩), fun d h => by rw [hr] at h; cases h⟩
/-- What read does, as a walk takes it: with what Check will say. -/
theorem read_go (s : Sl Int) (w : World) (hs : Hid (Bytes w s)) (hlt : Hid (∀ b o q, s.a = some ⟨b, o, q⟩ → b < w.heap.size)) (hg : Hid (ObjAt w 0)) {R : Ending → World → Prop}
    (ok : ∀ (p : Pk) (rest : List Int) (x : Ext w), Hid (pkP s.xs = .ok (Pk.er p, rest)) → Hid (∀ W : World, Kept w.heap.size x.val W → p.Ok W) → Hid (checkE p = 0) → Hid (∀ W : World, Below x.val.heap.size x.val W → Gives Tryz.prog 12 #[p.v] W (.int .i64 0)) → R (.returned (.tuple #[p.v, .int .i64 0])) x.val)
    (no : ∀ (p : Pk) (rest : List Int) (x : Ext w) (c : Int), Hid (pkP s.xs = .ok (Pk.er p, rest)) → Hid (checkE p = c) → c ≠ 0 → Hid (∀ W : World, Below x.val.heap.size x.val W → Gives Tryz.prog 12 #[p.v] W (.int .i64 c)) → R (.returned (.tuple #[p.v, .int .i64 0])) x.val)
    (bad : ∀ (c : Int) (x : Ext w), Hid (pkP s.xs = .error c) → c ≠ 0 → R (.returned (.tuple #[zeroPk, .int .i64 c])) x.val) : Calls Tryz.prog 38 #[s.v] w R :=
  (read_any s w hs hlt).mono fun e w' ⟨hb, h1, h2⟩ => by
    cases hr : pkP s.xs with
    | error c => rw [h2 c hr]; exact bad c ⟨w', hb⟩ hr (Nz.pk _ _ hr)
    | ok z =>
      obtain ⟨x, rest⟩ := z
      obtain ⟨v, he, p, F, rfl, rfl, hF, hok⟩ := h1 x rest hr
      have hp := hok w' (Nat.le_refl _) fun _ _ => rfl
      have hC : ∀ W : World, Below w'.heap.size w' W → Gives Tryz.prog 12 #[p.v] W (.int .i64 (checkE p)) := fun W h => check_any p W (hp.mono h) ((hg.out.mono hb).mono h)
      rw [he]
      by_cases hz : checkE p = 0
      · rw [hz] at hC
        exact ok p rest ⟨w', hb⟩ hr (fun W k => hok W k.size fun b hb => k.blk b (hF b hb).1 (hF b hb).2) hz hC
      · exact no p rest ⟨w', hb⟩ _ hr rfl hz hC
set_option maxRecDepth 20000 in
set_option maxHeartbeats 1000000 in
theorem ldecode_any (s : Sl Int) (w : World) (hs : Hid (Bytes w s)) (hlt : Hid (∀ b o q, s.a = some ⟨b, o, q⟩ → b < w.heap.size)) (hg : Hid (ObjAt w 0)) : Calls Tryz.prog 17 #[s.v] w (DecodeOut w (decodeP s.xs)) := by
  obtain ⟨a, c, bs⟩ := s
  have hle := hs.out.le
  have hmx := hs.out.max
  simp only at hle hmx
  have hlt' : Hid (∀ (W : World) (b o : Nat) (q : Option Nat), Below w.heap.size w W → a = some ⟨b, o, q⟩ → b < W.heap.size) := fun W b o q hb h => Nat.lt_of_lt_of_le (hlt.out b o q h) hb.size
  show Calls _ _ #[.slice a bs.length c] _ _
  by_cases hl : 2048 < bs.length
  · have HL := hid hl
    have hl1 : (2048 : Int) < (bs.length : Int) := by omega
    clear hl
    go_enter Tryz.func17, Tryz.ntmps17
    go_wp2_with fail
    go_returns
    exact DecodeOut.err END (decodeP_long HL.out) (by omega)
  · have HL := hid hl
    have hl1 : (bs.length : Int) ≤ 2048 := by omega
    clear hl
    go_enter Tryz.func17, Tryz.ntmps17
    go_wp2_with (first | (go_at_call 38; refine read_go ⟨a, c, bs⟩ _ (hid (Sl.Ok.mono hs.out END)) (hid fun b o q h => hlt'.out _ b o q END h) (hid (hg.out.mono END)) (fun p rest x hr hp hz hC => ?_) (fun p rest x c hr hz hne hC => ?_) (fun e x hr hne => ?_)) | (go_at_call 12; refine (hC.out _ END).go.mono ?_; rintro e w' ⟨rfl, xw, rfl⟩) | fail)
    · go_returns
      exact DecodeOut.ret END (decodeP_ok HL.out hr.out hz.out) (hp.out _ (by (with_reducible repeat' (first | exact Kept.refl | refine Kept.set ?_ ?_ | refine Kept.px _ ?_ ?_ | refine Kept.alloc ?_ _ | refine Kept.ext _ ?_)); (all_goals (first | omega | (simp; done) | (simp; omega)))))
    · go_returns
      exact DecodeOut.err END ((decodeP_no HL.out hr.out (by rw [hz.out]; exact hne)).trans (by rw [hz.out])) hne
    · go_returns
      exact DecodeOut.err END (decodeP_bad HL.out hr.out) hne
end Go.Proofs.YthagkijplklemaaGreatDoor
end
