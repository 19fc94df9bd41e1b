/- The program: written, the parts of Check, Check, Encode. -/
import Derived.Test.YthagkijplklemaaGreatDoorS15
import Derived.BigGuardPart
section
namespace Go.Proofs.YthagkijplklemaaGreatDoor
open Go.ChangeShapes Go.WideShapes Go.ChangeAt Go.RowKit Go.Sc
/-- The call returns a new slice of bytes; nothing that was there has turned. -/
def GivesB (P : Program) (f : FuncId) (args : Array Value) (w : World) (r : Value → Value) (xs : List Int) : Prop :=
  Calls P f args w fun e w' => ∃ (a : Option Addr) (c : Nat), e = .returned (r (.slice a xs.length c)) ∧ Bytes w' ⟨a, c, xs⟩ ∧ Below w.heap.size w w' ∧ ∀ b o q, a = some ⟨b, o, q⟩ → w.heap.size ≤ b
theorem GivesB.go {P : Program} {f : FuncId} {args : Array Value} {w : World} {r : Value → Value} {xs : List Int} (h : GivesB P f args w r xs) :
    Calls P f args w fun e w' => ∃ (a : Option Addr) (c : Nat) (x : Ext w), e = .returned (r (.slice a xs.length c)) ∧ w' = x.val ∧ Hid (Bytes x.val ⟨a, c, xs⟩) ∧ Hid (∀ b o q, a = some ⟨b, o, q⟩ → w.heap.size ≤ b) :=
  h.mono fun _ w' ⟨a, c, he, hb, hw, hf⟩ => ⟨a, c, ⟨w', hw⟩, he, rfl, hb, hf⟩
instance : NeT 99 5 := ⟨by decide⟩
theorem wr_new {U : TypeId} (w : World) (B b : Nat) (T : TypeId) (hb : b = w.heap.size) (hB : B ≤ b) (hT : T ≠ U) : Wr U B b (w.alloc (.cells #[.slice none 0 0] T)) [] := by
  subst hb
  refine ⟨by simp, hB, fun cs fr h => ?_, by simp, .slice none 0 0, ?_, by simpa using own_nil _ _ _ _⟩
  · rw [heap_alloc_new w] at h
    simp only [Option.some.injEq, Obj.cells.injEq] at h
    exact hT h.2.1
  · rw [World.cell?_alloc_new]; rfl
set_option maxHeartbeats 1000000 in
theorem written_any (p : Pk) (w : World) (hp : Hid (p.Ok w)) (hco : Hid (codesOk p)) (hl : (pkB p).length ≤ 1099511627776) : GivesB Tryz.prog 36 #[p.v] w (fun v => v) (pkB p) := by
  unfold GivesB
  have hW : Hid (∀ W : World, Below w.heap.size w W → Wr 5 w.heap.size (w.heap.size + 1) W [] → Puts 5 Tryz.prog 72 #[.pointer (some ⟨w.heap.size + 1, 0, none⟩), p.v] w.heap.size (w.heap.size + 1) W [] (pkB p)) :=
    fun W hd hw => wwhole_any w.heap.size (w.heap.size + 1) p w W [] rfl hp hd hco hw (by simpa using hl)
  go_enter Tryz.func36, Tryz.ntmps36
  go_wp2_with (go_at_call 72; refine (hW.out _ END (wr_new _ _ _ _ (by simp) (by omega) (by decide))).go.mono ?_; rintro e w' ⟨rfl, y, rfl, hy⟩; obtain ⟨sv, hsv, hown⟩ := hy.row; obtain ⟨va, vc, rfl, hfm⟩ := own_form hown; have hO := hid hown; have hfr := hid y.fr; clear hown hfm)
  go_ret
  have ho := hO.out
  rw [List.nil_append, show List.map (Value.int .u8) (pkB p) = vU (pkB p) from rfl, vU_cells] at ho
  obtain ⟨a, c, he, h1, h2⟩ := sl_of_own ho (fun x _ => rfl) (fun x hx => pkB_byts p x hx)
  cases he
  refine ⟨va, vc, ret_val (by simp), h1, (Below.trans ?_ (hfr.out.below (by omega) (by simp; omega))), fun b o q h => (h2 b o q h).1⟩
  exact END
theorem parts_any (p : Pk) (w : World) (hp : Hid (p.Ok w)) (hg : Hid (ObjAt w 0)) (ha : p.aid.xs.length ≤ 16) (hc : Hid (counts p)) :
    Gives Tryz.prog 27 #[p.v] w (.int .i64 (partsE p)) := by
  obtain ⟨e1, h1⟩ : ∃ e, e = firstE (fun k x => impE p k x) 0 p.imports.xs := ⟨_, rfl⟩
  obtain ⟨e2, h2⟩ : ∃ e, e = firstE (fun k x => clsE p k x) 0 p.classes.xs := ⟨_, rfl⟩
  obtain ⟨e3, h3⟩ : ∃ e, e = firstE (fun _ x => metE p x) 0 p.methods.xs := ⟨_, rfl⟩
  obtain ⟨e4, h4⟩ : ∃ e, e = if allUsable p p.statics.xs = true then (0 : Int) else 22 := ⟨_, rfl⟩
  obtain ⟨e5, h5⟩ : ∃ e, e = firstE (fun k x => appE p k x) 0 p.applets.xs := ⟨_, rfl⟩
  have g1 : Hid (∀ W : World, p.Ok W → Gives Tryz.prog 56 #[p.v] W (.int .i64 e1)) := fun W h => by rw [h1]; exact imports_any p W h
  have g2 : Hid (∀ W : World, p.Ok W → ObjAt W 0 → Gives Tryz.prog 57 #[p.v] W (.int .i64 e2)) := fun W h k => by rw [h2]; exact classes_any p W h k
  have g3 : Hid (∀ W : World, p.Ok W → Gives Tryz.prog 58 #[p.v] W (.int .i64 e3)) := fun W h => by rw [h3]; exact methods_any p W h
  have g4 : Hid (∀ W : World, p.Ok W → Gives Tryz.prog 59 #[p.v] W (.int .i64 e4)) := fun W h => by rw [h4]; exact statics_any p W h
  have g5 : Hid (∀ W : World, p.Ok W → ObjAt W 0 → Gives Tryz.prog 60 #[p.v] W (.int .i64 e5)) := fun W h k => by rw [h5]; exact applets_any p W h k
  have hE : Hid (partsE p = if e1 = 0 then (if e2 = 0 then (if e3 = 0 then (if e4 = 0 then (if e5 = 0 then (if 2048 < (pkB p).length then 3 else 0) else e5) else e4) else e3) else e2) else e1) := by
    have : partsE p = if e1 = 0 then (if e2 = 0 then (if e3 = 0 then (if e4 = 0 then (if e5 = 0 then (if 2048 < (pkB p).length then 3 else 0) else e5) else e4) else e3) else e2) else e1 := by
      rw [h1, h2, h3, h4, h5]; unfold partsE; grind
    exact this
  have hw : Hid (∀ W : World, p.Ok W → e1 = 0 → e2 = 0 → e3 = 0 → e5 = 0 → GivesB Tryz.prog 36 #[p.v] W (fun v => v) (pkB p)) := fun W h z1 z2 z3 z5 => by
    have hb := pkB_le p ha hc.out (h1 ▸ z1) (h2 ▸ z2) (h3 ▸ z3) (h5 ▸ z5)
    exact written_any p W h hb.2 (by omega)
  obtain ⟨n, hn⟩ : ∃ n, n = (pkB p).length := ⟨_, rfl⟩
  have hw' : Hid (∀ W : World, p.Ok W → e1 = 0 → e2 = 0 → e3 = 0 → e5 = 0 → Calls Tryz.prog 36 #[p.v] W fun e w' => ∃ (a : Option Addr) (c : Nat) (x : Ext W), e = .returned (.slice a n c) ∧ w' = x.val ∧ n ≤ 1000000) := fun W h z1 z2 z3 z5 => by
    have hb := pkB_le p ha hc.out (h1 ▸ z1) (h2 ▸ z2) (h3 ▸ z3) (h5 ▸ z5)
    exact (hw.out W h z1 z2 z3 z5).go.mono fun e w' ⟨a, c, x, he, hx, _, _⟩ => ⟨a, c, x, by rw [hn]; exact he, hx, by rw [hn]; exact hb.1⟩
  rw [← hn] at hE
  clear h1 h2 h3 h4 h5 hn hw
  rw [hE.out]
  unfold Gives
  by_cases z1 : e1 = 0
  · have z1' : (e1 != 0) = false := by simp [z1]
    by_cases z2 : e2 = 0
    · have z2' : (e2 != 0) = false := by simp [z2]
      by_cases z3 : e3 = 0
      · have z3' : (e3 != 0) = false := by simp [z3]
        by_cases z4 : e4 = 0
        · have z4' : (e4 != 0) = false := by simp [z4]
          by_cases z5 : e5 = 0
          · have z5' : (e5 != 0) = false := by simp [z5]
            have Z := hid (And.intro z1 (And.intro z2 (And.intro z3 (And.intro z4 z5))))
            rw [if_pos z1, if_pos z2, if_pos z3, if_pos z4, if_pos z5]
            clear z1 z2 z3 z4 z5
            go_enter Tryz.func27, Tryz.ntmps27
            go_wp2_with (first | (go_at_call 56; refine (g1.out _ (hp.out.mono END)).go.mono ?_; rintro e w' ⟨rfl, xw, rfl⟩) | (go_at_call 57; refine (g2.out _ (hp.out.mono END) (hg.out.mono END)).go.mono ?_; rintro e w' ⟨rfl, xw, rfl⟩) | (go_at_call 58; refine (g3.out _ (hp.out.mono END)).go.mono ?_; rintro e w' ⟨rfl, xw, rfl⟩) | (go_at_call 59; refine (g4.out _ (hp.out.mono END)).go.mono ?_; rintro e w' ⟨rfl, xw, rfl⟩) | (go_at_call 60; refine (g5.out _ (hp.out.mono END) (hg.out.mono END)).go.mono ?_; rintro e w' ⟨rfl, xw, rfl⟩) | (go_at_call 36; refine (hw'.out _ (hp.out.mono END) Z.out.1 Z.out.2.1 Z.out.2.2.1 Z.out.2.2.2.2).mono ?_; rintro e w' ⟨a, c, x, rfl, rfl, hnb⟩))
            all_goals
              go_ret
              exact ⟨ret_int (by grind), END⟩
          ·
            have zz : (e5 != 0) = true := by simp [z5]
            have Z := hid z5
            simp [*]
            clear z5
            go_enter Tryz.func27, Tryz.ntmps27
            go_wp2_with (first | (go_at_call 56; refine (g1.out _ (hp.out.mono END)).go.mono ?_; rintro e w' ⟨rfl, xw, rfl⟩) | (go_at_call 57; refine (g2.out _ (hp.out.mono END) (hg.out.mono END)).go.mono ?_; rintro e w' ⟨rfl, xw, rfl⟩) | (go_at_call 58; refine (g3.out _ (hp.out.mono END)).go.mono ?_; rintro e w' ⟨rfl, xw, rfl⟩) | (go_at_call 59; refine (g4.out _ (hp.out.mono END)).go.mono ?_; rintro e w' ⟨rfl, xw, rfl⟩) | (go_at_call 60; refine (g5.out _ (hp.out.mono END) (hg.out.mono END)).go.mono ?_; rintro e w' ⟨rfl, xw, rfl⟩))
            go_ret
            exact ⟨rfl, END⟩
        ·
          have zz : (e4 != 0) = true := by simp [z4]
          have Z := hid z4
          simp [*]
          clear z4
          go_enter Tryz.func27, Tryz.ntmps27
          go_wp2_with (first | (go_at_call 56; refine (g1.out _ (hp.out.mono END)).go.mono ?_; rintro e w' ⟨rfl, xw, rfl⟩) | (go_at_call 57; refine (g2.out _ (hp.out.mono END) (hg.out.mono END)).go.mono ?_; rintro e w' ⟨rfl, xw, rfl⟩) | (go_at_call 58; refine (g3.out _ (hp.out.mono END)).go.mono ?_; rintro e w' ⟨rfl, xw, rfl⟩) | (go_at_call 59; refine (g4.out _ (hp.out.mono END)).go.mono ?_; rintro e w' ⟨rfl, xw, rfl⟩) | (go_at_call 60; refine (g5.out _ (hp.out.mono END) (hg.out.mono END)).go.mono ?_; rintro e w' ⟨rfl, xw, rfl⟩))
          go_ret
          exact ⟨rfl, END⟩
      ·
        have zz : (e3 != 0) = true := by simp [z3]
        have Z := hid z3
        simp [*]
        clear z3
        go_enter Tryz.func27, Tryz.ntmps27
        go_wp2_with (first | (go_at_call 56; refine (g1.out _ (hp.out.mono END)).go.mono ?_; rintro e w' ⟨rfl, xw, rfl⟩) | (go_at_call 57; refine (g2.out _ (hp.out.mono END) (hg.out.mono END)).go.mono ?_; rintro e w' ⟨rfl, xw, rfl⟩) | (go_at_call 58; refine (g3.out _ (hp.out.mono END)).go.mono ?_; rintro e w' ⟨rfl, xw, rfl⟩) | (go_at_call 59; refine (g4.out _ (hp.out.mono END)).go.mono ?_; rintro e w' ⟨rfl, xw, rfl⟩) | (go_at_call 60; refine (g5.out _ (hp.out.mono END) (hg.out.mono END)).go.mono ?_; rintro e w' ⟨rfl, xw, rfl⟩))
        go_ret
        exact ⟨rfl, END⟩
    ·
      have zz : (e2 != 0) = true := by simp [z2]
      have Z := hid z2
      simp [*]
      clear z2
      go_enter Tryz.func27, Tryz.ntmps27
      go_wp2_with (first | (go_at_call 56; refine (g1.out _ (hp.out.mono END)).go.mono ?_; rintro e w' ⟨rfl, xw, rfl⟩) | (go_at_call 57; refine (g2.out _ (hp.out.mono END) (hg.out.mono END)).go.mono ?_; rintro e w' ⟨rfl, xw, rfl⟩) | (go_at_call 58; refine (g3.out _ (hp.out.mono END)).go.mono ?_; rintro e w' ⟨rfl, xw, rfl⟩) | (go_at_call 59; refine (g4.out _ (hp.out.mono END)).go.mono ?_; rintro e w' ⟨rfl, xw, rfl⟩) | (go_at_call 60; refine (g5.out _ (hp.out.mono END) (hg.out.mono END)).go.mono ?_; rintro e w' ⟨rfl, xw, rfl⟩))
      go_ret
      exact ⟨rfl, END⟩
  ·
    have zz : (e1 != 0) = true := by simp [z1]
    have Z := hid z1
    simp [*]
    clear z1
    go_enter Tryz.func27, Tryz.ntmps27
    go_wp2_with (first | (go_at_call 56; refine (g1.out _ (hp.out.mono END)).go.mono ?_; rintro e w' ⟨rfl, xw, rfl⟩) | (go_at_call 57; refine (g2.out _ (hp.out.mono END) (hg.out.mono END)).go.mono ?_; rintro e w' ⟨rfl, xw, rfl⟩) | (go_at_call 58; refine (g3.out _ (hp.out.mono END)).go.mono ?_; rintro e w' ⟨rfl, xw, rfl⟩) | (go_at_call 59; refine (g4.out _ (hp.out.mono END)).go.mono ?_; rintro e w' ⟨rfl, xw, rfl⟩) | (go_at_call 60; refine (g5.out _ (hp.out.mono END) (hg.out.mono END)).go.mono ?_; rintro e w' ⟨rfl, xw, rfl⟩))
    go_ret
    exact ⟨rfl, END⟩
theorem check_any (p : Pk) (w : World) (hp : Hid (p.Ok w)) (hg : Hid (ObjAt w 0)) :
    Gives Tryz.prog 12 #[p.v] w (.int .i64 (checkE p)) := by
  have hP : Hid (∀ W : World, p.Ok W → ObjAt W 0 → isName p.aid.xs.length = true → p.imports.xs.length ≤ 4 → p.classes.xs.length ≤ 32 → p.methods.xs.length ≤ 64 → p.statics.xs.length ≤ 16 → p.applets.xs.length ≤ 32 → Gives Tryz.prog 27 #[p.v] W (.int .i64 (partsE p))) :=
    fun W h k hn c1 c2 c3 c4 c5 => parts_any p W h k (by unfold isName at hn; simp at hn; omega) ⟨c1, c2, c3, c4, c5⟩
  unfold Gives
  cases hn : isName p.aid.xs.length with
  | false =>
    have hr : Hid (checkE p = 1) := by
      have : checkE p = 1 := by unfold checkE; rw [if_pos hn]
      exact this
    have hi : Hid (∀ W : World, Gives Tryz.prog 25 #[.slice p.aid.a p.aid.xs.length p.aid.c] W (.bool false)) := fun W => by rw [← hn]; exact identifier_any _ _ _ W
    clear hn
    rw [hr.out]
    go_enter Tryz.func12, Tryz.ntmps12
    go_wp2_with ((go_at_call 25; refine (hi.out _).go.mono ?_; rintro e w' ⟨rfl, xw, rfl⟩))
    go_ret
    exact ⟨rfl, END⟩
  | true =>
    have hi : Hid (∀ W : World, Gives Tryz.prog 25 #[.slice p.aid.a p.aid.xs.length p.aid.c] W (.bool true)) := fun W => by rw [← hn]; exact identifier_any _ _ _ W
    have hr : Hid (checkE p = if isByte p.major = false ∨ isByte p.minor = false then 2 else if 4 < p.imports.xs.length ∨ 32 < p.classes.xs.length ∨ 64 < p.methods.xs.length ∨ 16 < p.statics.xs.length ∨ 32 < p.applets.xs.length then 3 else partsE p) := by
      have : checkE p = if isByte p.major = false ∨ isByte p.minor = false then 2 else if 4 < p.imports.xs.length ∨ 32 < p.classes.xs.length ∨ 64 < p.methods.xs.length ∨ 16 < p.statics.xs.length ∨ 32 < p.applets.xs.length then 3 else partsE p := by unfold checkE; rw [if_neg (by simp [hn])]
      exact this
    have HN := hid hn
    clear hn
    rw [hr.out]
    go_enter Tryz.func12, Tryz.ntmps12
    go_wp2_with (first | (go_at_call 25; refine (hi.out _).go.mono ?_; rintro e w' ⟨rfl, xw, rfl⟩) | (go_at_call 26; refine (version_any _ _).go.mono ?_; rintro e w' ⟨rfl, xw, rfl⟩) | (go_at_call 27; refine (hP.out _ (hp.out.mono END) (hg.out.mono END) HN.out (by omega) (by omega) (by omega) (by omega) (by omega)).go.mono ?_; rintro e w' ⟨rfl, xw, rfl⟩))
    all_goals first
      | (exfalso; omega)
      | (go_ret; exact ⟨ret_int (by grind), END⟩)
/-- A package that Check accepts is one that can be written. -/
theorem check_codes {p : Pk} (h : checkE p = 0) : codesOk p ∧ (pkB p).length ≤ 2048 ∧ counts p ∧ isName p.aid.xs.length = true := by
  unfold checkE at h
  split at h
  · cases h
  · rename_i hn
    split at h
    · cases h
    · split at h
      · cases h
      · have hc : counts p := ⟨by omega, by omega, by omega, by omega, by omega⟩
        have hn' : isName p.aid.xs.length = true := by simpa using hn
        unfold partsE at h
        split at h
        · rename_i h1
          split at h
          · rename_i h2
            split at h
            · rename_i h3
              split at h
              · split at h
                · rename_i h5
                  have hb := pkB_le p (by unfold isName at hn'; simp at hn'; omega) hc h1 h2 h3 h5
                  split at h
                  · cases h
                  · exact ⟨hb.2, by omega, hc, hn'⟩
                · contradiction
              · cases h
            · contradiction
          · contradiction
        · contradiction
theorem encode_good (p : Pk) (w : World) (hp : Hid (p.Ok w)) (hg : Hid (ObjAt w 0)) (h : checkE p = 0) :
    GivesB Tryz.prog 14 #[p.v] w (fun v => .tuple #[v, .int .i64 0]) (pkB p) := by
  have hcc := check_codes h
  have hC : Hid (∀ W : World, p.Ok W → ObjAt W 0 → Gives Tryz.prog 12 #[p.v] W (.int .i64 0)) := fun W h0 k => by have := check_any p W h0 k; rwa [h] at this
  have hw : Hid (∀ W : World, p.Ok W → GivesB Tryz.prog 36 #[p.v] W (fun v => v) (pkB p)) := fun W h0 => written_any p W h0 hcc.1 (by have := hcc.2.1; omega)
  obtain ⟨l, hl⟩ : ∃ l, l = pkB p := ⟨_, rfl⟩
  rw [← hl] at hw ⊢
  clear hl h hcc
  unfold GivesB
  go_enter Tryz.func14, Tryz.ntmps14
  go_wp2_with (first | (go_at_call 12; refine (hC.out _ (hp.out.mono END) (hg.out.mono END)).go.mono ?_; rintro e w' ⟨rfl, xw, rfl⟩) | (go_at_call 36; refine (hw.out _ (hp.out.mono END)).go.mono ?_; rintro e w' ⟨a, c, x, rfl, rfl, hb, hf⟩))
  go_ret2
  exact ⟨a, c, rfl, hb.out, END, fun b o q h => Nat.le_trans END (hf.out b o q h)⟩
end Go.Proofs.YthagkijplklemaaGreatDoor
end
