/- LoadfileRoundTrip holds: for every package and all bytes the law returns true, and they read as before. No condition but that the listed variable starts as the program's text lays it. -/
import Derived.Test.YthagkijplklemaaGreatDoorM35
import Derived.Test.YthagkijplklemaaGreatDoorM27
import Derived.Test.YthagkijplklemaaGreatDoorM38
import Derived.Test.YthagkijplklemaaGreatDoorM41
import Derived.BigGuardPart
section
namespace Go.Proofs.YthagkijplklemaaGreatDoor
open Go.ChangeShapes Go.WideShapes Go.ChangeAt Go.RowKit Go.Sc
set_option maxRecDepth 100000
/-- Bytes that are an argument. -/
theorem arg_bytes {H : Type} {enc : TypeId × Value → H} {W : World} {base : Nat} {v : Value} {d : DataW H} {p : List MemPlace}
    (hv : Value.okWide Tryz.prog W .any base 22 v) (h : DataW.Trod enc Tryz.prog W 0 (fun _ => true) true 22 v d p) : ∃ s : Sl Int, v = s.v ∧ Bytes W s ∧ ∀ b o q, s.a = some ⟨b, o, q⟩ → b < W.heap.size := by
  obtain ⟨a, len, cap, rfl⟩ := okWide_slice Tryz.underlying22 hv
  obtain ⟨fuel, hf⟩ := h
  obtain ⟨s, hs, hok⟩ := open_bytes hf
  simp only [Value.cells] at hs
  have hs : Value.slice a len cap = s.v := by simpa using hs
  refine ⟨s, hs, hok, fun b o q he => ?_⟩
  simp only [Value.slice.injEq] at hs
  obtain ⟨rfl, rfl, rfl⟩ := hs
  simp only [Value.okWide, Tryz.underlying22, Cell.okWide, Cell.ok, he] at hv
  obtain ⟨_, _, _, _, row, cells, hsh, _⟩ := hv
  simp only [World.shape?] at hsh
  by_cases hlt : b < W.heap.size
  · exact hlt
  · rw [Array.getElem?_eq_none (by omega)] at hsh
    simp at hsh
theorem pk_aids {w : World} {p : Pk} (h : p.Ok w) : aidsOk p :=
  ⟨h.aid.range, fun x hx => by
    obtain ⟨k, hk, rfl⟩ := List.getElem_of_mem hx
    exact (h.imports.at_ k _ (List.getElem?_eq_getElem hk)).1.1.range, fun x hx => by
    obtain ⟨k, hk, rfl⟩ := List.getElem_of_mem hx
    exact (h.applets.at_ k _ (List.getElem?_eq_getElem hk)).1.1.range⟩
theorem dec_enc {p : Pk} (ha : aidsOk p) (h : checkE p = 0) : decodeP (pkB p) = .ok (Pk.er p) :=
  decodeP_ok (by have := (check_codes h).2.1; omega) (pk_reads ha h) h
theorem enc_dec {b : List Int} {x : Pk} (hb : byts b) (h : decodeP b = .ok x) : checkE x = 0 ∧ pkB x = b := by
  unfold decodeP at h
  split at h
  · cases h
  · split at h
    · cases h
    · rename_i y r hp
      split at h
      · rename_i hc
        cases h
        exact ⟨hc, (pk_writes hb hp).1⟩
      · cases h
theorem rt_encode (W : World) (p : Pk) (l : List Int) (hl : l = pkB p) (hp : p.Ok W) (hg : ObjAt W 0) (h : checkE p = 0) : Calls Tryz.prog 14 #[p.v] W fun e w' =>
    ∃ (a : Option Addr) (c : Nat) (x : Ext W), e = .returned (.tuple #[.slice a l.length c, .int .i64 0]) ∧ w' = x.val ∧ Hid (Bytes x.val ⟨a, c, l⟩) := by
  subst hl
  exact giv (encode_good p W hp hg h) _ rfl
theorem rt_decode (W : World) (a : Option Addr) (c : Nat) (p : Pk) (l : List Int) (hl : l = pkB p) (ha : aidsOk p) (hb : Bytes W ⟨a, c, l⟩) (hg : ObjAt W 0) (h : checkE p = 0) : Calls Tryz.prog 17 #[.slice a l.length c] W fun e w' =>
    ∃ (q : Pk) (x : Ext W), e = .returned (.tuple #[q.v, .int .i64 0]) ∧ w' = x.val ∧ Hid (q.Ok x.val) ∧ Hid (Pk.er q = Pk.er p) := by
  subst hl
  have hn : 0 < (pkB p).length := by
    cases hq : pkB p with
    | nil =>
      have := pk_reads ha h
      rw [hq] at this
      exact absurd this (by simp [pkP, magicP, Rr.bind, numP])
    | cons => simp
  obtain ⟨b, o, rfl, hlt⟩ := addr_of hb hn
  refine (ldecode_any ⟨some ⟨b, o, none⟩, c, pkB p⟩ W hb (fun b' o' q h => by cases h; exact hlt) hg).mono ?_
  rintro e w' ⟨hbl, h1, _⟩
  obtain ⟨q, rfl, hp, he⟩ := h1 _ (dec_enc ha h)
  exact ⟨q, ⟨w', hbl⟩, rfl, rfl, hp, he⟩
set_option maxHeartbeats 4000000 in
theorem roundTrip_law (p : Pk) (s : Sl Int) (w : World) (hp : Hid (p.Ok w)) (hs : Hid (Bytes w s)) (hlt : Hid (∀ b o q, s.a = some ⟨b, o, q⟩ → b < w.heap.size)) (hg : Hid (ObjAt w 0)) : Gives Tryz.prog 6 #[p.v, s.v] w (.bool true) := by
  have hL : Hid (∀ W : World, Below w.heap.size w W → Calls Tryz.prog 10 #[p.v] W (LightOut W)) := fun W h => light_any p W (hid (hp.out.mono h))
  have hS1 : Hid (∀ q : Pk, Pk.er q = Pk.er p → ∀ W : World, p.Ok W → q.Ok W → Gives Tryz.prog 20 #[p.v, q.v] W (.bool true)) := fun q he W h k => by
    have := same_any p q W h k
    rwa [pkEq_of_er he.symm] at this
  have hR1 : Hid (∀ q : Pk, Pk.er q = Pk.er p → ∀ W : World, p.Ok W → q.Ok W → Gives Tryz.prog 19 #[p.v, q.v] W (.bool true)) := fun q he W h k => by
    have := rpkSame_any p q W h k
    rwa [pkEq_of_er he.symm] at this
  have ha := pk_aids hp.out
  obtain ⟨l, hl⟩ : ∃ l, l = pkB p := ⟨_, rfl⟩
  obtain ⟨a, c, bs⟩ := s
  have hY : Hid (∀ (W : World) (ya : Option Addr) (yc : Nat), Bytes W ⟨ya, yc, bs⟩ → Below w.heap.size w W → Gives Tryz.prog 16 #[.slice ya bs.length yc, .slice a bs.length c] W (.bool true)) := fun W ya yc h k => by
    have := rsame_any ⟨ya, yc, bs⟩ ⟨a, c, bs⟩ W h (hs.out.mono k)
    rwa [show bEq bs bs = true from bEq_self bs] at this
  have hDb : Hid (∀ W : World, Below w.heap.size w W → Calls Tryz.prog 17 #[.slice a bs.length c] W (DecodeOut W (decodeP bs))) := fun W h =>
    ldecode_any ⟨a, c, bs⟩ W (hs.out.mono h) (hid fun b o q e => Nat.lt_of_lt_of_le (hlt.out b o q e) h.size) (hg.out.mono h)
  have hF : Hid (∀ (W : World) (q : Pk), q.Ok W → (checkE q = 0 ∧ pkB q = bs) → Below w.heap.size w W → Calls Tryz.prog 14 #[q.v] W fun e w' => ∃ (ya : Option Addr) (yc : Nat) (x : Ext W), e = .returned (.tuple #[.slice ya bs.length yc, .int .i64 0]) ∧ w' = x.val ∧ Hid (Bytes x.val ⟨ya, yc, bs⟩)) := fun W q hq h k =>
    rt_encode W q bs h.2.symm hq (hg.out.mono k) h.1
  have hbs : byts bs := hs.out.range
  show Gives _ _ #[p.v, .slice a bs.length c] _ _
  unfold Gives
  by_cases hc : checkE p = 0
  · have hE : Hid (∀ W : World, Below w.heap.size w W → Calls Tryz.prog 14 #[p.v] W fun e w' => ∃ (a : Option Addr) (c : Nat) (x : Ext W), e = .returned (.tuple #[.slice a l.length c, .int .i64 0]) ∧ w' = x.val ∧ Hid (Bytes x.val ⟨a, c, l⟩)) := fun W h => rt_encode W p l hl (hp.out.mono h) (hg.out.mono h) hc
    have hD : Hid (∀ (W : World) (a : Option Addr) (c : Nat), Below w.heap.size w W → Bytes W ⟨a, c, l⟩ → Calls Tryz.prog 17 #[.slice a l.length c] W fun e w' => ∃ (q : Pk) (x : Ext W), e = .returned (.tuple #[q.v, .int .i64 0]) ∧ w' = x.val ∧ Hid (q.Ok x.val) ∧ Hid (Pk.er q = Pk.er p)) := fun W a c h k => rt_decode W a c p l hl ha k (hg.out.mono h) hc
    have hll : (l.length : Int) ≤ 2048 := by have := (check_codes hc).2.1; rw [hl]; omega
    clear hl ha hc
    cases hr : decodeP bs with
    | ok x =>
      have hB : Hid (∀ W : World, Below w.heap.size w W → Calls Tryz.prog 17 #[.slice a bs.length c] W fun e w' => ∃ (q : Pk) (y : Ext W), e = .returned (.tuple #[q.v, .int .i64 0]) ∧ w' = y.val ∧ Hid (q.Ok y.val) ∧ Hid (checkE q = 0 ∧ pkB q = bs)) := fun W h => (hDb.out W h).mono fun e w' ⟨hb, h1, _⟩ => by
        obtain ⟨q, rfl, hq, rfl⟩ := h1 _ hr
        have := enc_dec hbs hr
        rw [checkE_er, pkB_er] at this
        exact ⟨q, ⟨w', hb⟩, rfl, rfl, hq, this⟩
      clear hr hDb hbs hlt
      go_enter Tryz.func6, Tryz.ntmps6
      go_wp2_with (first | (go_at_call 10; refine (hL.out _ (by repeat' (first | (with_reducible exact Below.refl _ _) | (with_reducible exact Nat.le_refl _) | (with_reducible refine Below.alloc ?_ ?_ _) | (with_reducible refine below_ext _ ?_ ?_) | (with_reducible refine Below.drew ?_) | (with_reducible refine Below.setCell ?_ ?_ _) | (with_reducible refine le_alloc ?_) | (with_reducible refine Ext.le_size _ ?_) | (with_reducible refine le_drew ?_) | (with_reducible refine le_setCell ?_)))).mono ?_; rintro e w' ⟨lb, xl, rfl, rfl⟩; cases lb) | (go_at_call 14; with_reducible refine (hE.out _ ?_).mono ?_; (exact (by repeat' (first | (with_reducible exact Below.refl _ _) | (with_reducible exact Nat.le_refl _) | (with_reducible refine Below.alloc ?_ ?_ _) | (with_reducible refine below_ext _ ?_ ?_) | (with_reducible refine Below.drew ?_) | (with_reducible refine Below.setCell ?_ ?_ _) | (with_reducible refine le_alloc ?_) | (with_reducible refine Ext.le_size _ ?_) | (with_reducible refine le_drew ?_) | (with_reducible refine le_setCell ?_)))); rintro e w' ⟨xa, xc, xx, rfl, rfl, hxb⟩) | (go_at_call 17; with_reducible refine (hD.out _ _ _ ?_ (Sl.Ok.mono hxb.out ?_)).mono ?_; (exact (by repeat' (first | (with_reducible exact Below.refl _ _) | (with_reducible exact Nat.le_refl _) | (with_reducible refine Below.alloc ?_ ?_ _) | (with_reducible refine below_ext _ ?_ ?_) | (with_reducible refine Below.drew ?_) | (with_reducible refine Below.setCell ?_ ?_ _) | (with_reducible refine le_alloc ?_) | (with_reducible refine Ext.le_size _ ?_) | (with_reducible refine le_drew ?_) | (with_reducible refine le_setCell ?_)))); (exact (by repeat' (first | (with_reducible exact Below.refl _ _) | (with_reducible exact Nat.le_refl _) | (with_reducible refine Below.alloc ?_ ?_ _) | (with_reducible refine below_ext _ ?_ ?_) | (with_reducible refine Below.drew ?_) | (with_reducible refine Below.setCell ?_ ?_ _) | (with_reducible refine le_alloc ?_) | (with_reducible refine Ext.le_size _ ?_) | (with_reducible refine le_drew ?_) | (with_reducible refine le_setCell ?_)))); rintro e w' ⟨q, xq, rfl, rfl, hqo, hqe⟩; haveI hS := hid (hS1.out q hqe.out); haveI hR := hid (hR1.out q hqe.out)) | (go_at_call 17; with_reducible refine (hB.out _ ?_).mono ?_; (exact (by repeat' (first | (with_reducible exact Below.refl _ _) | (with_reducible exact Nat.le_refl _) | (with_reducible refine Below.alloc ?_ ?_ _) | (with_reducible refine below_ext _ ?_ ?_) | (with_reducible refine Below.drew ?_) | (with_reducible refine Below.setCell ?_ ?_ _) | (with_reducible refine le_alloc ?_) | (with_reducible refine Ext.le_size _ ?_) | (with_reducible refine le_drew ?_) | (with_reducible refine le_setCell ?_)))); rintro e w' ⟨x2, x2x, rfl, rfl, h2o, h2e⟩) | (go_at_call 14; with_reducible refine (hF.out _ _ (h2o.out.mono ?_) h2e.out ?_).mono ?_; (exact (by repeat' (first | (with_reducible exact Below.refl _ _) | (with_reducible exact Nat.le_refl _) | (with_reducible refine Below.alloc ?_ ?_ _) | (with_reducible refine below_ext _ ?_ ?_) | (with_reducible refine Below.drew ?_) | (with_reducible refine Below.setCell ?_ ?_ _) | (with_reducible refine le_alloc ?_) | (with_reducible refine Ext.le_size _ ?_) | (with_reducible refine le_drew ?_) | (with_reducible refine le_setCell ?_)))); (exact (by repeat' (first | (with_reducible exact Below.refl _ _) | (with_reducible exact Nat.le_refl _) | (with_reducible refine Below.alloc ?_ ?_ _) | (with_reducible refine below_ext _ ?_ ?_) | (with_reducible refine Below.drew ?_) | (with_reducible refine Below.setCell ?_ ?_ _) | (with_reducible refine le_alloc ?_) | (with_reducible refine Ext.le_size _ ?_) | (with_reducible refine le_drew ?_) | (with_reducible refine le_setCell ?_)))); rintro e w' ⟨ya, yc, yx, rfl, rfl, hyb⟩) | (go_at_call 20; refine (hS.out _ (hid (hp.out.mono (by repeat' (first | (with_reducible exact Below.refl _ _) | (with_reducible exact Nat.le_refl _) | (with_reducible refine Below.alloc ?_ ?_ _) | (with_reducible refine below_ext _ ?_ ?_) | (with_reducible refine Below.drew ?_) | (with_reducible refine Below.setCell ?_ ?_ _) | (with_reducible refine le_alloc ?_) | (with_reducible refine Ext.le_size _ ?_) | (with_reducible refine le_drew ?_) | (with_reducible refine le_setCell ?_))))) (hid (hqo.out.mono (by repeat' (first | (with_reducible exact Below.refl _ _) | (with_reducible exact Nat.le_refl _) | (with_reducible refine Below.alloc ?_ ?_ _) | (with_reducible refine below_ext _ ?_ ?_) | (with_reducible refine Below.drew ?_) | (with_reducible refine Below.setCell ?_ ?_ _) | (with_reducible refine le_alloc ?_) | (with_reducible refine Ext.le_size _ ?_) | (with_reducible refine le_drew ?_) | (with_reducible refine le_setCell ?_)))))).go.mono ?_; rintro e w' ⟨rfl, xs1, rfl⟩) | (go_at_call 19; refine (hR.out _ (hid (hp.out.mono (by repeat' (first | (with_reducible exact Below.refl _ _) | (with_reducible exact Nat.le_refl _) | (with_reducible refine Below.alloc ?_ ?_ _) | (with_reducible refine below_ext _ ?_ ?_) | (with_reducible refine Below.drew ?_) | (with_reducible refine Below.setCell ?_ ?_ _) | (with_reducible refine le_alloc ?_) | (with_reducible refine Ext.le_size _ ?_) | (with_reducible refine le_drew ?_) | (with_reducible refine le_setCell ?_))))) (hid (hqo.out.mono (by repeat' (first | (with_reducible exact Below.refl _ _) | (with_reducible exact Nat.le_refl _) | (with_reducible refine Below.alloc ?_ ?_ _) | (with_reducible refine below_ext _ ?_ ?_) | (with_reducible refine Below.drew ?_) | (with_reducible refine Below.setCell ?_ ?_ _) | (with_reducible refine le_alloc ?_) | (with_reducible refine Ext.le_size _ ?_) | (with_reducible refine le_drew ?_) | (with_reducible refine le_setCell ?_)))))).go.mono ?_; rintro e w' ⟨rfl, xs2, rfl⟩) | (go_at_call 16; refine (hY.out _ _ _ (hid (hyb.out.mono (by repeat' (first | (with_reducible exact Below.refl _ _) | (with_reducible exact Nat.le_refl _) | (with_reducible refine Below.alloc ?_ ?_ _) | (with_reducible refine below_ext _ ?_ ?_) | (with_reducible refine Below.drew ?_) | (with_reducible refine Below.setCell ?_ ?_ _) | (with_reducible refine le_alloc ?_) | (with_reducible refine Ext.le_size _ ?_) | (with_reducible refine le_drew ?_) | (with_reducible refine le_setCell ?_))))) (by repeat' (first | (with_reducible exact Below.refl _ _) | (with_reducible exact Nat.le_refl _) | (with_reducible refine Below.alloc ?_ ?_ _) | (with_reducible refine below_ext _ ?_ ?_) | (with_reducible refine Below.drew ?_) | (with_reducible refine Below.setCell ?_ ?_ _) | (with_reducible refine le_alloc ?_) | (with_reducible refine Ext.le_size _ ?_) | (with_reducible refine le_drew ?_) | (with_reducible refine le_setCell ?_)))).go.mono ?_; rintro e w' ⟨rfl, xs3, rfl⟩) | (go_at_call 11; refine (example_any _ (hid (hg.out.mono (by repeat' (first | (with_reducible exact Below.refl _ _) | (with_reducible exact Nat.le_refl _) | (with_reducible refine Below.alloc ?_ ?_ _) | (with_reducible refine below_ext _ ?_ ?_) | (with_reducible refine Below.drew ?_) | (with_reducible refine Below.setCell ?_ ?_ _) | (with_reducible refine le_alloc ?_) | (with_reducible refine Ext.le_size _ ?_) | (with_reducible refine le_drew ?_) | (with_reducible refine le_setCell ?_)))))).go.mono ?_; rintro e w' ⟨rfl, xe, rfl⟩) | fail)
      all_goals
        go_ret
        exact ⟨rfl, (by repeat' (first | (with_reducible exact Below.refl _ _) | (with_reducible exact Nat.le_refl _) | (with_reducible refine Below.alloc ?_ ?_ _) | (with_reducible refine below_ext _ ?_ ?_) | (with_reducible refine Below.drew ?_) | (with_reducible refine Below.setCell ?_ ?_ _) | (with_reducible refine le_alloc ?_) | (with_reducible refine Ext.le_size _ ?_) | (with_reducible refine le_drew ?_) | (with_reducible refine le_setCell ?_)))⟩
    | error d =>
      have hB : Hid (∀ W : World, Below w.heap.size w W → Calls Tryz.prog 17 #[.slice a bs.length c] W fun e w' => ∃ (y : Ext W), e = .returned (.tuple #[zeroPk, .int .i64 d]) ∧ w' = y.val) := fun W h => (hDb.out W h).mono fun e w' ⟨hb, _, h1⟩ => ⟨⟨w', hb⟩, (h1 _ hr).2, rfl⟩
      have hd : ¬ d = 0 := by
        obtain ⟨W, hW⟩ : ∃ W, W = w := ⟨_, rfl⟩
        unfold decodeP at hr
        split at hr
        · cases hr; omega
        · split at hr
          · rename_i e he; cases hr; exact Nz.pk _ _ he
          · split at hr
            · cases hr
            · rename_i h; cases hr; exact h
      clear hr hDb hbs hlt hF hY
      go_enter Tryz.func6, Tryz.ntmps6
      go_wp2_with (first | (go_at_call 10; refine (hL.out _ (by repeat' (first | (with_reducible exact Below.refl _ _) | (with_reducible exact Nat.le_refl _) | (with_reducible refine Below.alloc ?_ ?_ _) | (with_reducible refine below_ext _ ?_ ?_) | (with_reducible refine Below.drew ?_) | (with_reducible refine Below.setCell ?_ ?_ _) | (with_reducible refine le_alloc ?_) | (with_reducible refine Ext.le_size _ ?_) | (with_reducible refine le_drew ?_) | (with_reducible refine le_setCell ?_)))).mono ?_; rintro e w' ⟨lb, xl, rfl, rfl⟩; cases lb) | (go_at_call 14; with_reducible refine (hE.out _ ?_).mono ?_; (exact (by repeat' (first | (with_reducible exact Below.refl _ _) | (with_reducible exact Nat.le_refl _) | (with_reducible refine Below.alloc ?_ ?_ _) | (with_reducible refine below_ext _ ?_ ?_) | (with_reducible refine Below.drew ?_) | (with_reducible refine Below.setCell ?_ ?_ _) | (with_reducible refine le_alloc ?_) | (with_reducible refine Ext.le_size _ ?_) | (with_reducible refine le_drew ?_) | (with_reducible refine le_setCell ?_)))); rintro e w' ⟨xa, xc, xx, rfl, rfl, hxb⟩) | (go_at_call 17; with_reducible refine (hD.out _ _ _ ?_ (Sl.Ok.mono hxb.out ?_)).mono ?_; (exact (by repeat' (first | (with_reducible exact Below.refl _ _) | (with_reducible exact Nat.le_refl _) | (with_reducible refine Below.alloc ?_ ?_ _) | (with_reducible refine below_ext _ ?_ ?_) | (with_reducible refine Below.drew ?_) | (with_reducible refine Below.setCell ?_ ?_ _) | (with_reducible refine le_alloc ?_) | (with_reducible refine Ext.le_size _ ?_) | (with_reducible refine le_drew ?_) | (with_reducible refine le_setCell ?_)))); (exact (by repeat' (first | (with_reducible exact Below.refl _ _) | (with_reducible exact Nat.le_refl _) | (with_reducible refine Below.alloc ?_ ?_ _) | (with_reducible refine below_ext _ ?_ ?_) | (with_reducible refine Below.drew ?_) | (with_reducible refine Below.setCell ?_ ?_ _) | (with_reducible refine le_alloc ?_) | (with_reducible refine Ext.le_size _ ?_) | (with_reducible refine le_drew ?_) | (with_reducible refine le_setCell ?_)))); rintro e w' ⟨q, xq, rfl, rfl, hqo, hqe⟩; haveI hS := hid (hS1.out q hqe.out); haveI hR := hid (hR1.out q hqe.out)) | (go_at_call 17; with_reducible refine (hB.out _ ?_).mono ?_; (exact (by repeat' (first | (with_reducible exact Below.refl _ _) | (with_reducible exact Nat.le_refl _) | (with_reducible refine Below.alloc ?_ ?_ _) | (with_reducible refine below_ext _ ?_ ?_) | (with_reducible refine Below.drew ?_) | (with_reducible refine Below.setCell ?_ ?_ _) | (with_reducible refine le_alloc ?_) | (with_reducible refine Ext.le_size _ ?_) | (with_reducible refine le_drew ?_) | (with_reducible refine le_setCell ?_)))); rintro e w' ⟨x2x, rfl, rfl⟩) | (go_at_call 20; refine (hS.out _ (hid (hp.out.mono (by repeat' (first | (with_reducible exact Below.refl _ _) | (with_reducible exact Nat.le_refl _) | (with_reducible refine Below.alloc ?_ ?_ _) | (with_reducible refine below_ext _ ?_ ?_) | (with_reducible refine Below.drew ?_) | (with_reducible refine Below.setCell ?_ ?_ _) | (with_reducible refine le_alloc ?_) | (with_reducible refine Ext.le_size _ ?_) | (with_reducible refine le_drew ?_) | (with_reducible refine le_setCell ?_))))) (hid (hqo.out.mono (by repeat' (first | (with_reducible exact Below.refl _ _) | (with_reducible exact Nat.le_refl _) | (with_reducible refine Below.alloc ?_ ?_ _) | (with_reducible refine below_ext _ ?_ ?_) | (with_reducible refine Below.drew ?_) | (with_reducible refine Below.setCell ?_ ?_ _) | (with_reducible refine le_alloc ?_) | (with_reducible refine Ext.le_size _ ?_) | (with_reducible refine le_drew ?_) | (with_reducible refine le_setCell ?_)))))).go.mono ?_; rintro e w' ⟨rfl, xs1, rfl⟩) | (go_at_call 19; refine (hR.out _ (hid (hp.out.mono (by repeat' (first | (with_reducible exact Below.refl _ _) | (with_reducible exact Nat.le_refl _) | (with_reducible refine Below.alloc ?_ ?_ _) | (with_reducible refine below_ext _ ?_ ?_) | (with_reducible refine Below.drew ?_) | (with_reducible refine Below.setCell ?_ ?_ _) | (with_reducible refine le_alloc ?_) | (with_reducible refine Ext.le_size _ ?_) | (with_reducible refine le_drew ?_) | (with_reducible refine le_setCell ?_))))) (hid (hqo.out.mono (by repeat' (first | (with_reducible exact Below.refl _ _) | (with_reducible exact Nat.le_refl _) | (with_reducible refine Below.alloc ?_ ?_ _) | (with_reducible refine below_ext _ ?_ ?_) | (with_reducible refine Below.drew ?_) | (with_reducible refine Below.setCell ?_ ?_ _) | (with_reducible refine le_alloc ?_) | (with_reducible refine Ext.le_size _ ?_) | (with_reducible refine le_drew ?_) | (with_reducible refine le_setCell ?_)))))).go.mono ?_; rintro e w' ⟨rfl, xs2, rfl⟩) | (go_at_call 11; refine (example_any _ (hid (hg.out.mono (by repeat' (first | (with_reducible exact Below.refl _ _) | (with_reducible exact Nat.le_refl _) | (with_reducible refine Below.alloc ?_ ?_ _) | (with_reducible refine below_ext _ ?_ ?_) | (with_reducible refine Below.drew ?_) | (with_reducible refine Below.setCell ?_ ?_ _) | (with_reducible refine le_alloc ?_) | (with_reducible refine Ext.le_size _ ?_) | (with_reducible refine le_drew ?_) | (with_reducible refine le_setCell ?_)))))).go.mono ?_; rintro e w' ⟨rfl, xe, rfl⟩) | fail)
      all_goals
        go_ret
        exact ⟨rfl, (by repeat' (first | (with_reducible exact Below.refl _ _) | (with_reducible exact Nat.le_refl _) | (with_reducible refine Below.alloc ?_ ?_ _) | (with_reducible refine below_ext _ ?_ ?_) | (with_reducible refine Below.drew ?_) | (with_reducible refine Below.setCell ?_ ?_ _) | (with_reducible refine le_alloc ?_) | (with_reducible refine Ext.le_size _ ?_) | (with_reducible refine le_drew ?_) | (with_reducible refine le_setCell ?_)))⟩
  · obtain ⟨d0, hd0⟩ : ∃ d, d = checkE p := ⟨_, rfl⟩
    have hE : Hid (∀ W : World, Below w.heap.size w W → Gives Tryz.prog 14 #[p.v] W (.tuple #[.slice none 0 0, .int .i64 d0])) := fun W h => by rw [hd0]; exact encode_bad p W (hp.out.mono h) (hg.out.mono h) hc
    rw [← hd0] at hc
    clear hl ha hd0 hS1 hR1
    cases hr : decodeP bs with
    | ok x =>
      have hB : Hid (∀ W : World, Below w.heap.size w W → Calls Tryz.prog 17 #[.slice a bs.length c] W fun e w' => ∃ (q : Pk) (y : Ext W), e = .returned (.tuple #[q.v, .int .i64 0]) ∧ w' = y.val ∧ Hid (q.Ok y.val) ∧ Hid (checkE q = 0 ∧ pkB q = bs)) := fun W h => (hDb.out W h).mono fun e w' ⟨hb, h1, _⟩ => by
        obtain ⟨q, rfl, hq, rfl⟩ := h1 _ hr
        have := enc_dec hbs hr
        rw [checkE_er, pkB_er] at this
        exact ⟨q, ⟨w', hb⟩, rfl, rfl, hq, this⟩
      clear hr hDb hbs hlt
      go_enter Tryz.func6, Tryz.ntmps6
      go_wp2_with (first | (go_at_call 10; refine (hL.out _ (by repeat' (first | (with_reducible exact Below.refl _ _) | (with_reducible exact Nat.le_refl _) | (with_reducible refine Below.alloc ?_ ?_ _) | (with_reducible refine below_ext _ ?_ ?_) | (with_reducible refine Below.drew ?_) | (with_reducible refine Below.setCell ?_ ?_ _) | (with_reducible refine le_alloc ?_) | (with_reducible refine Ext.le_size _ ?_) | (with_reducible refine le_drew ?_) | (with_reducible refine le_setCell ?_)))).mono ?_; rintro e w' ⟨lb, xl, rfl, rfl⟩; cases lb) | (go_at_call 14; with_reducible refine (hE.out _ ?_).go.mono ?_; (exact (by repeat' (first | (with_reducible exact Below.refl _ _) | (with_reducible exact Nat.le_refl _) | (with_reducible refine Below.alloc ?_ ?_ _) | (with_reducible refine below_ext _ ?_ ?_) | (with_reducible refine Below.drew ?_) | (with_reducible refine Below.setCell ?_ ?_ _) | (with_reducible refine le_alloc ?_) | (with_reducible refine Ext.le_size _ ?_) | (with_reducible refine le_drew ?_) | (with_reducible refine le_setCell ?_)))); rintro e w' ⟨rfl, xx, rfl⟩) | (go_at_call 17; with_reducible refine (hB.out _ ?_).mono ?_; (exact (by repeat' (first | (with_reducible exact Below.refl _ _) | (with_reducible exact Nat.le_refl _) | (with_reducible refine Below.alloc ?_ ?_ _) | (with_reducible refine below_ext _ ?_ ?_) | (with_reducible refine Below.drew ?_) | (with_reducible refine Below.setCell ?_ ?_ _) | (with_reducible refine le_alloc ?_) | (with_reducible refine Ext.le_size _ ?_) | (with_reducible refine le_drew ?_) | (with_reducible refine le_setCell ?_)))); rintro e w' ⟨x2, x2x, rfl, rfl, h2o, h2e⟩) | (go_at_call 14; with_reducible refine (hF.out _ _ (h2o.out.mono ?_) h2e.out ?_).mono ?_; (exact (by repeat' (first | (with_reducible exact Below.refl _ _) | (with_reducible exact Nat.le_refl _) | (with_reducible refine Below.alloc ?_ ?_ _) | (with_reducible refine below_ext _ ?_ ?_) | (with_reducible refine Below.drew ?_) | (with_reducible refine Below.setCell ?_ ?_ _) | (with_reducible refine le_alloc ?_) | (with_reducible refine Ext.le_size _ ?_) | (with_reducible refine le_drew ?_) | (with_reducible refine le_setCell ?_)))); (exact (by repeat' (first | (with_reducible exact Below.refl _ _) | (with_reducible exact Nat.le_refl _) | (with_reducible refine Below.alloc ?_ ?_ _) | (with_reducible refine below_ext _ ?_ ?_) | (with_reducible refine Below.drew ?_) | (with_reducible refine Below.setCell ?_ ?_ _) | (with_reducible refine le_alloc ?_) | (with_reducible refine Ext.le_size _ ?_) | (with_reducible refine le_drew ?_) | (with_reducible refine le_setCell ?_)))); rintro e w' ⟨ya, yc, yx, rfl, rfl, hyb⟩) | (go_at_call 16; refine (hY.out _ _ _ (hid (hyb.out.mono (by repeat' (first | (with_reducible exact Below.refl _ _) | (with_reducible exact Nat.le_refl _) | (with_reducible refine Below.alloc ?_ ?_ _) | (with_reducible refine below_ext _ ?_ ?_) | (with_reducible refine Below.drew ?_) | (with_reducible refine Below.setCell ?_ ?_ _) | (with_reducible refine le_alloc ?_) | (with_reducible refine Ext.le_size _ ?_) | (with_reducible refine le_drew ?_) | (with_reducible refine le_setCell ?_))))) (by repeat' (first | (with_reducible exact Below.refl _ _) | (with_reducible exact Nat.le_refl _) | (with_reducible refine Below.alloc ?_ ?_ _) | (with_reducible refine below_ext _ ?_ ?_) | (with_reducible refine Below.drew ?_) | (with_reducible refine Below.setCell ?_ ?_ _) | (with_reducible refine le_alloc ?_) | (with_reducible refine Ext.le_size _ ?_) | (with_reducible refine le_drew ?_) | (with_reducible refine le_setCell ?_)))).go.mono ?_; rintro e w' ⟨rfl, xs3, rfl⟩) | (go_at_call 11; refine (example_any _ (hid (hg.out.mono (by repeat' (first | (with_reducible exact Below.refl _ _) | (with_reducible exact Nat.le_refl _) | (with_reducible refine Below.alloc ?_ ?_ _) | (with_reducible refine below_ext _ ?_ ?_) | (with_reducible refine Below.drew ?_) | (with_reducible refine Below.setCell ?_ ?_ _) | (with_reducible refine le_alloc ?_) | (with_reducible refine Ext.le_size _ ?_) | (with_reducible refine le_drew ?_) | (with_reducible refine le_setCell ?_)))))).go.mono ?_; rintro e w' ⟨rfl, xe, rfl⟩) | fail)
      all_goals
        go_ret
        exact ⟨rfl, (by repeat' (first | (with_reducible exact Below.refl _ _) | (with_reducible exact Nat.le_refl _) | (with_reducible refine Below.alloc ?_ ?_ _) | (with_reducible refine below_ext _ ?_ ?_) | (with_reducible refine Below.drew ?_) | (with_reducible refine Below.setCell ?_ ?_ _) | (with_reducible refine le_alloc ?_) | (with_reducible refine Ext.le_size _ ?_) | (with_reducible refine le_drew ?_) | (with_reducible refine le_setCell ?_)))⟩
    | error d =>
      have hB : Hid (∀ W : World, Below w.heap.size w W → Calls Tryz.prog 17 #[.slice a bs.length c] W fun e w' => ∃ (y : Ext W), e = .returned (.tuple #[zeroPk, .int .i64 d]) ∧ w' = y.val) := fun W h => (hDb.out W h).mono fun e w' ⟨hb, _, h1⟩ => ⟨⟨w', hb⟩, (h1 _ hr).2, rfl⟩
      have hd : ¬ d = 0 := by
        unfold decodeP at hr
        split at hr
        · cases hr; omega
        · split at hr
          · rename_i e he; cases hr; exact Nz.pk _ _ he
          · split at hr
            · cases hr
            · rename_i h; cases hr; exact h
      clear hr hDb hbs hlt hF hY
      go_enter Tryz.func6, Tryz.ntmps6
      go_wp2_with (first | (go_at_call 10; refine (hL.out _ (by repeat' (first | (with_reducible exact Below.refl _ _) | (with_reducible exact Nat.le_refl _) | (with_reducible refine Below.alloc ?_ ?_ _) | (with_reducible refine below_ext _ ?_ ?_) | (with_reducible refine Below.drew ?_) | (with_reducible refine Below.setCell ?_ ?_ _) | (with_reducible refine le_alloc ?_) | (with_reducible refine Ext.le_size _ ?_) | (with_reducible refine le_drew ?_) | (with_reducible refine le_setCell ?_)))).mono ?_; rintro e w' ⟨lb, xl, rfl, rfl⟩; cases lb) | (go_at_call 14; with_reducible refine (hE.out _ ?_).go.mono ?_; (exact (by repeat' (first | (with_reducible exact Below.refl _ _) | (with_reducible exact Nat.le_refl _) | (with_reducible refine Below.alloc ?_ ?_ _) | (with_reducible refine below_ext _ ?_ ?_) | (with_reducible refine Below.drew ?_) | (with_reducible refine Below.setCell ?_ ?_ _) | (with_reducible refine le_alloc ?_) | (with_reducible refine Ext.le_size _ ?_) | (with_reducible refine le_drew ?_) | (with_reducible refine le_setCell ?_)))); rintro e w' ⟨rfl, xx, rfl⟩) | (go_at_call 17; with_reducible refine (hB.out _ ?_).mono ?_; (exact (by repeat' (first | (with_reducible exact Below.refl _ _) | (with_reducible exact Nat.le_refl _) | (with_reducible refine Below.alloc ?_ ?_ _) | (with_reducible refine below_ext _ ?_ ?_) | (with_reducible refine Below.drew ?_) | (with_reducible refine Below.setCell ?_ ?_ _) | (with_reducible refine le_alloc ?_) | (with_reducible refine Ext.le_size _ ?_) | (with_reducible refine le_drew ?_) | (with_reducible refine le_setCell ?_)))); rintro e w' ⟨x2x, rfl, rfl⟩) | (go_at_call 11; refine (example_any _ (hid (hg.out.mono (by repeat' (first | (with_reducible exact Below.refl _ _) | (with_reducible exact Nat.le_refl _) | (with_reducible refine Below.alloc ?_ ?_ _) | (with_reducible refine below_ext _ ?_ ?_) | (with_reducible refine Below.drew ?_) | (with_reducible refine Below.setCell ?_ ?_ _) | (with_reducible refine le_alloc ?_) | (with_reducible refine Ext.le_size _ ?_) | (with_reducible refine le_drew ?_) | (with_reducible refine le_setCell ?_)))))).go.mono ?_; rintro e w' ⟨rfl, xe, rfl⟩) | fail)
      all_goals
        go_ret
        exact ⟨rfl, (by repeat' (first | (with_reducible exact Below.refl _ _) | (with_reducible exact Nat.le_refl _) | (with_reducible refine Below.alloc ?_ ?_ _) | (with_reducible refine below_ext _ ?_ ?_) | (with_reducible refine Below.drew ?_) | (with_reducible refine Below.setCell ?_ ?_ _) | (with_reducible refine le_alloc ?_) | (with_reducible refine Ext.le_size _ ?_) | (with_reducible refine le_drew ?_) | (with_reducible refine le_setCell ?_)))⟩
theorem roundTrip_lifted (os : Os) (started : os.Started) (H : Type) (enc : TypeId × Value → H) (F : Stop.Interp) :
    ReturnsInHanded {} Tryz.checked os 6 .any ((OpenSpec.ofChange Rows.loadfileRoundTripSpec).preRow enc Tryz.prog Tryz.f6 Rows.loadfileRoundTripRow.domain false Rows.loadfileRoundTripRow.laid) (((OpenSpec.ofChange Rows.loadfileRoundTripSpec).at F).post enc Tryz.prog Tryz.f6 false true false false) := by
  have hx : ∃ places, DataW.whole enc Tryz.prog ((laidWorld os).forCall (fun _ _ => 0) ⟨#[], #[zeroPk, .slice none 0 0], []⟩).memory Tryz.f6.params.toList Rows.loadfileRoundTripSpec.vars false #[zeroPk, .slice none 0 0].toList 16 = some ([.agg [.nil, .lit (.int .i64 0), .lit (.int .i64 0), .nil, .nil, .nil, .nil, .nil], .nil], [], places) := ⟨[], by kernel_rfl⟩
  obtain ⟨places, hx⟩ := hx
  refine returnsInHanded_of_row (C := Tryz.checked) (s := OpenSpec.ofChange Rows.loadfileRoundTripSpec) ownKnob' started (by kernel_rfl) Tryz.func6
    (witness_row_at (enc := enc) (C := Tryz.checked) false (laidWorld os) #[zeroPk, .slice none 0 0] rfl (by kernel_rfl) (by kernel_rfl) (by kernel_rfl)
      (OpenSpec.preRow_of_cond 16 hx (by kernel_rfl) (fun k hk => by cases hk) (by kernel_rfl) (laidMet_of_run' 16 (by kernel_rfl) (by kernel_rfl)))) ?_
  intro W base args ds gs before hval hW _ _ _ hL _ _
  refine law_post (f := 6) (fn := Tryz.f6) (s := Rows.loadfileRoundTripSpec) rfl rfl (by kernel_rfl) (fun ds hds => ?_) hW fun ps hA => ?_
  · match ds, hds with
    | [_, _], _ => rfl
  · have hO := obj_at hL
    have hA' : DataW.TrodAll enc Tryz.prog W 0 (fun _ => true) true [29, 22] args.toList _ ps := hA
    obtain ⟨v0, vs0, d0, ds0, p0, q0, hargs, rfl, rfl, h0, r0⟩ := trodAll_cons hA'
    obtain ⟨v1, vs1, d1, ds1, p1, q1, rfl, rfl, rfl, h1, r1⟩ := trodAll_cons r0
    obtain ⟨rfl, rfl, rfl⟩ := trodAll_nil r1
    obtain rfl : args = #[v0, v1] := by cases args; simp_all
    obtain ⟨p, rfl, hp⟩ := arg_pk (hval 0 _ _ rfl rfl) h0
    obtain ⟨s, rfl, hs, hlt⟩ := arg_bytes (hval 1 _ _ rfl rfl) h1
    exact roundTrip_law p s W hp hs hlt hO
theorem roundTrip_said : Rows.LoadfileRoundTripSaid :=
  OpenClaim.holds_of_cond 6 Tryz.f6 rfl rfl rfl rfl rfl rfl rfl ⟨rfl, rfl, rfl, rfl, rfl⟩ rfl rfl rfl rfl rfl (by kernel_rfl) Tryz.func6 (by kernel_rfl)
    (of_decide_eq_true (by kernel_rfl)) (by unfold Func.isWrapper; first | (rw [if_pos (by decide +kernel)]; kernel_rfl) | (rw [if_neg (by decide +kernel)]; exact ⟨rfl, rfl⟩))
    (fun os started H enc _ F => by rw [OpenClaim.pre_eq_preRow]; exact roundTrip_lifted os started H enc F)
theorem roundTrip_plain (f : FuncId) (fn : Func) (hf : Tryz.pinned.checked.prog.funcNamed Rows.loadfileRoundTripRow.func = some f) (hfn : Tryz.pinned.checked.prog.funcs[f]? = some fn) :
    true = Tryz.pinned.checked.prog.looks [] ∧ ∀ (j : Nat) t, fn.params[j]? = some t → Tryz.pinned.checked.prog.wantsStandIn t = false := by
  obtain rfl : f = 6 := Option.some.inj ((show Tryz.prog.funcNamed Rows.loadfileRoundTripRow.func = some 6 by kernel_rfl).symm.trans hf) |>.symm
  obtain rfl : fn = Tryz.f6 := (Option.some.inj (Tryz.func6.symm.trans hfn)).symm
  refine ⟨by kernel_rfl, fun j t ht => ?_⟩
  have hall : (Tryz.f6.params.toList.all fun t => !Tryz.pinned.checked.prog.wantsStandIn t) = true := by kernel_rfl
  have hm : t ∈ Tryz.f6.params.toList := by
    rw [Array.getElem?_eq_some_iff] at ht
    obtain ⟨hl, he⟩ := ht
    rw [← he]
    simp
  simpa using List.all_eq_true.1 hall t hm
/-- The law, with its listed variable tied to the program's text. -/
theorem roundTrip_holds : Rows.LoadfileRoundTripCardSaid :=
  Claim7.holds_tied_plain_at .later [] _ _ _ _ roundTrip_said (fun _ h => by cases h) (by kernel_rfl) (fun _ h => by cases h) loadfileRoundTrip_row_tie rfl ⟨rfl, rfl⟩ (by kernel_rfl) rfl roundTrip_plain (by kernel_rfl)
#print axioms roundTrip_holds
end Go.Proofs.YthagkijplklemaaGreatDoor
end
