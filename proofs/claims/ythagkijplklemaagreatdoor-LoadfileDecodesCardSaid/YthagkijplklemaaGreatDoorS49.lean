/- The reference's Decode. -/
import Derived.Test.YthagkijplklemaaGreatDoorS48
import Derived.Test.YthagkijplklemaaGreatDoorS34
import Derived.Test.YthagkijplklemaaGreatDoorS43
section
namespace Go.Proofs.YthagkijplklemaaGreatDoor
open Go.ChangeShapes Go.WideShapes Go.ChangeAt Go.RowKit Go.Sc
theorem rr_assoc {α β γ : Type} (P : Rr α) (Q : α → Rr β) (R : β → Rr γ) : (P.bind Q).bind R = P.bind fun x => (Q x).bind R := by
  funext b
  simp only [Rr.bind]
  cases P b with
  | error c => rfl
  | ok z => rfl
theorem rr_pure {α β : Type} (x : α) (R : α → Rr β) : (Rr.pure x).bind R = R x := rfl
theorem pkP_eq : pkP = pkQ.bind fun x => endP.bind fun _ => Rr.pure x := by
  unfold pkP pkQ
  simp only [rr_assoc, rr_pure]
/-- What is left behind the reading. -/
theorem read_end {bs : List Int} {x : Pk} {a1 : Nat} {e1 e2 : Int} (h : Post pkQ bs 0 0 x a1 e1) (he : (a1 < bs.length ∧ e2 = if e1 = 0 then 4 else e1) ∨ (¬ a1 < bs.length ∧ e2 = e1)) : (e2 = 0 → pkP bs = .ok (x, [])) ∧ (e2 ≠ 0 → pkP bs = .error e2) := by
  rw [pkP_eq]
  cases hq : pkQ bs with
  | error c =>
    obtain ⟨rfl, hc⟩ := h.bad c rfl (by simpa using hq)
    have h2 : e2 = e1 := by
      rcases he with ⟨_, he⟩ | ⟨_, he⟩
      · rw [if_neg hc] at he; exact he
      · exact he
    subst h2
    exact ⟨fun h => absurd h hc, fun _ => Rr.bind_err hq⟩
  | ok z =>
    obtain ⟨y, r⟩ := z
    obtain ⟨rfl, rfl, rfl⟩ := h.ok y r rfl (by simpa using hq)
    rw [Rr.bind_ok hq]
    rcases he with ⟨hl, rfl⟩ | ⟨hl, rfl⟩
    · refine ⟨fun h => by simp at h, fun _ => ?_⟩
      have hd : bs.drop a1 ≠ [] := by simp; omega
      exact Rr.bind_err (by unfold endP; rw [if_neg hd]; rfl)
    · refine ⟨fun _ => ?_, fun h => absurd rfl h⟩
      have hd : bs.drop a1 = [] := by simp; omega
      rw [Rr.bind_ok (x := ()) (r := bs.drop a1) (by unfold endP; rw [if_pos hd]), hd]
      rfl
theorem rs_new {w : World} {a : Option Addr} {c : Nat} {bs : List Int} {t : TypeId} (hb : Bytes w ⟨a, c, bs⟩) (hlt : ∀ b o q, a = some ⟨b, o, q⟩ → b < w.heap.size) (hl : bs.length ≤ 2048) : Rs w.heap.size (w.alloc (.cells #[.slice a bs.length c, .int .i64 0, .int .i64 0] t)) bs 0 0 := by
  have h := BoxL.new w #[.slice a bs.length c, .int .i64 0, .int .i64 0] t
  exact ⟨by simp, h.2, ⟨a, c, h.1 0 _ rfl, Sl.Ok.mono hb ((Below.refl _ _).alloc (Nat.le_refl _) _), hlt⟩, h.1 1 _ rfl, h.1 2 _ rfl, Nat.zero_le _, hl⟩
set_option maxRecDepth 20000 in
set_option maxHeartbeats 1000000 in
theorem rdecode28_any (s : Sl Int) (w : World) (hs : Hid (Bytes w s)) (hlt : Hid (∀ b o q, s.a = some ⟨b, o, q⟩ → b < w.heap.size)) : Calls Tryz.prog 18 #[s.v] w (DecodeOut w (decodeP s.xs)) := by
  obtain ⟨a, c, bs⟩ := s
  have hle := hs.out.le
  have hmx := hs.out.max
  simp only at hle hmx
  show Calls _ _ #[.slice a bs.length c] _ _
  by_cases hl : 2048 < bs.length
  · have HL := hid hl
    have hl1 : (2048 : Int) < (bs.length : Int) := by omega
    clear hl
    go_enter Tryz.func18, Tryz.ntmps18
    go_wp2_with fail
    refine bodyPost_ret (v := .tuple #[zeroPk, .int .i64 3]) (by simp [results, Tryz.results18, go_sem, zeroPk]) rfl ?_
    exact DecodeOut.err END (decodeP_long HL.out) (by omega)
  · have HL := hid hl
    have hl1 : (bs.length : Int) ≤ 2048 := by omega
    clear hl
    go_enter Tryz.func18, Tryz.ntmps18
    go_upto_region 4 with fail
    obtain ⟨P, hP⟩ : ∃ P, P = w.heap.size + 1 := ⟨_, rfl⟩
    refine gen_v (fun V => Below w.heap.size w V ∧ Rs P V bs 0 0 ∧ BoxL V w.heap.size zP ∧ P < V.heap.size)
      ⟨END, by (rw [hP]; have h := fun o t => rs_new (w := w.alloc o) (t := t) (Sl.Ok.mono hs.out ((Below.refl _ _).alloc (Nat.le_refl _) _)) (fun b o q h => by have := hlt.out b o q h; simp; omega) (show bs.length ≤ 2048 by omega); simp only [World.size_alloc] at h; exact h _ _),
        (BoxL.new w _ _).same (Below.heap_alloc _ _ _ (by simp)), by rw [hP]; simp⟩ ?_
    rintro V ⟨gV, rV, zV', hPV⟩
    try rw [← hP]
    have hwP : w.heap.size < P := by omega
    have GV := hid gV
    have RV := hid rV
    have ZV := hid zV'
    haveI : InW P V := ⟨hPV⟩
    haveI : Nq w.heap.size P V := ⟨by omega, by omega⟩
    clear hP gV rV zV'
    go_upto_region 5 with (first | (go_at_call 39; refine (jread_any P _ bs 0 0 (hid (by (with_reducible repeat' (first | exact Hid.out (by assumption) | refine Rs.alloc ?_ _ | refine Rs.ext _ ?_ | refine Rs.drew ?_ | refine Rs.setCell ?_ (by omega) _)); first | done | fail))).go (fun x a1 e1 v y hx hR h1 => ?_); obtain ⟨pk, F, rfl, hc, hF, hok⟩ := hx.out; have HC := hid hc; have HF := hid hF; have HOK := hid hok; clear hx hc hF hok) | fail)
    obtain rfl := HC.out
    clear HC
    obtain ⟨D, hD⟩ : ∃ D, D = y.val.heap.size := ⟨_, rfl⟩
    have sy := y.fp.size
    have hPD : P < D := by omega
    have hwD : w.heap.size < D := by omega
    refine gen_v (fun W => Below w.heap.size w W ∧ Rs P W bs a1 e1 ∧ BoxL W w.heap.size zP ∧ BoxL W D [.slice pk.aid.a pk.aid.xs.length pk.aid.c, .int .i64 pk.major, .int .i64 pk.minor, .slice pk.imports.a pk.imports.xs.length pk.imports.c, .slice pk.classes.a pk.classes.xs.length pk.classes.c, .slice pk.methods.a pk.methods.xs.length pk.methods.c, .slice pk.statics.a pk.statics.xs.length pk.statics.c, .slice pk.applets.a pk.applets.xs.length pk.applets.c] ∧ (∀ U : World, W.heap.size ≤ U.heap.size → (∀ b, P < b → b < D → U.heap[b]? = W.heap[b]?) → pk.Ok U) ∧ D < W.heap.size)
      ⟨(GV.out.trans (y.fp.below (by omega) GV.out.size)).alloc (by have := GV.out.size; omega) _, hR.out.alloc _, (ZV.out.same (y.fp.block _ (by omega) (by omega))).same (Below.heap_alloc _ _ _ (by omega)), by rw [hD]; exact BoxL.new _ _ _,
        fun U hs hU => HOK.out U (by simp at hs; omega) fun b hb => (hU b (by have := HF.out b hb; omega) (by have := HF.out b hb; omega)).trans (Below.heap_alloc _ _ _ (by have := HF.out b hb; omega)), by rw [hD]; simp⟩ ?_
    rintro W ⟨gW, rW, zW, bW, oW, hDW⟩
    rw [← hD]
    have G := hid gW
    have R := hid rW
    have Z := hid zW
    have B := hid bW
    have O := hid oW
    have P1 := hid h1.out
    have c1 := rW.at_
    have c2 := rW.err
    haveI : InW P W := ⟨by omega⟩
    haveI : InW D W := ⟨hDW⟩
    haveI : Nq D P W := ⟨hDW, by omega⟩
    haveI : Nq w.heap.size P W := ⟨by omega, by omega⟩
    clear gW rW zW bW oW hD hR h1 GV RV ZV HF HOK
    by_cases hat : a1 < bs.length
    · have HT := hid hat
      have hti : (a1 : Int) < (bs.length : Int) := by omega
      clear hat
      go_upto_if 28 with (first | (go_at_call 40; refine (jfail_any P _ bs a1 e1 4 (hid (by (with_reducible repeat' (first | exact Hid.out (by assumption) | refine Rs.alloc ?_ _ | refine Rs.ext _ ?_ | refine Rs.drew ?_ | refine Rs.setCell ?_ (by omega) _)); first | done | fail))).mono ?_; intro en w' hF; obtain ⟨rfl, y2, e2, rfl, h2, hR⟩ := hF; have d2 := hR.out.err; have hne := hid (show e2 ≠ 0 by rw [h2]; split <;> first | decide | assumption); have hg := (show (e2 == 0) = false by simpa using hne.out); have H2 := hid h2; clear h2) | fail)
      have hB := hid (G.out.trans (y2.fp.below (by omega) G.out.size))
      have zz := hid (Z.out.same (y2.fp.block _ (by omega) (by omega)))
      have z0 := zz.out.1 0 _ rfl; have z1 := zz.out.1 1 _ rfl; have z2 := zz.out.1 2 _ rfl; have z3 := zz.out.1 3 _ rfl; have z4 := zz.out.1 4 _ rfl; have z5 := zz.out.1 5 _ rfl; have z6 := zz.out.1 6 _ rfl; have z7 := zz.out.1 7 _ rfl
      have zf := zz.out.2
      go_wp2_with fail
      go_region_law (fail)
      all_goals
        go_wp2_with fail
        refine bodyPost_ret (v := .tuple #[zeroPk, .int .i64 e2]) (by simp [results, Tryz.results18, go_sem, zeroPk, z0, z1, z2, z3, z4, z5, z6, z7]) rfl ?_
        exact DecodeOut.err ENDX (decodeP_bad HL.out ((read_end P1.out (.inl ⟨HT.out, H2.out⟩)).2 hne.out)) hne.out
    · have HT := hid hat
      have hti : (bs.length : Int) ≤ (a1 : Int) := by omega
      clear hat
      by_cases he : e1 = 0
      · subst he
        obtain ⟨cv, hcv⟩ : ∃ cv, cv = checkE pk := ⟨_, rfl⟩
        have HCV := hid hcv
        have hC : Hid (Gives Tryz.prog 13 #[pk.v] W (.int .i64 cv)) := hid (by rw [hcv]; exact rcheck28_any pk W (hid (O.out _ (Nat.le_refl _) fun _ _ _ => rfl)))
        clear hcv
        have b0 := B.out.1 0 _ rfl; have b1 := B.out.1 1 _ rfl; have b2 := B.out.1 2 _ rfl; have b3 := B.out.1 3 _ rfl; have b4 := B.out.1 4 _ rfl; have b5 := B.out.1 5 _ rfl; have b6 := B.out.1 6 _ rfl; have b7 := B.out.1 7 _ rfl
        go_upto_if 37 with (first | (go_at_call 13; refine hC.out.go.mono ?_; rintro en w' ⟨rfl, xw, rfl⟩; have sx := xw.size) | (go_at_call 40; refine (jfail_any P _ bs a1 0 cv (hid (by (with_reducible repeat' (first | exact Hid.out (by assumption) | refine Rs.alloc ?_ _ | refine Rs.ext _ ?_ | refine Rs.drew ?_ | refine Rs.setCell ?_ (by omega) _)); first | done | fail))).mono ?_; intro en w' hF; obtain ⟨rfl, y2, e2, rfl, h2, hR⟩ := hF; obtain rfl : e2 = cv := (by simpa using h2); have d2 := hR.out.err; clear h2) | fail)
        have gs := G.out.size
        have gx : W.heap.size ≤ xw.val.heap.size := xw.below.size
        have BD := hid ((B.out.same (xw.below.block D hDW)).same (y2.fp.block _ (by omega) (by omega)))
        have ZD := hid ((Z.out.same (xw.below.block w.heap.size (by omega))).same (y2.fp.block _ (by omega) (by omega)))
        have hB := hid ((G.out.trans (xw.below.mono (by omega))).trans (y2.fp.below (by omega) (by omega)))
        have gy := y2.fp.size
        have OD : Hid (∀ U : World, Kept (P + 1) y2.val U → pk.Ok U) := hid fun U k => O.out U (by have := k.size; omega) fun b h1 h2 => (k.blk b h1 (by omega)).trans ((y2.fp.block b (by omega) (by omega)).trans (xw.below.block b (by omega)))
        by_cases hz : e2 = 0
        · subst hz
          have PR := hid (decodeP_ok HL.out ((read_end P1.out (.inr ⟨HT.out, rfl⟩)).1 rfl) HCV.out.symm)
          have b0 := BD.out.1 0 _ rfl; have b1 := BD.out.1 1 _ rfl; have b2 := BD.out.1 2 _ rfl; have b3 := BD.out.1 3 _ rfl; have b4 := BD.out.1 4 _ rfl; have b5 := BD.out.1 5 _ rfl; have b6 := BD.out.1 6 _ rfl; have b7 := BD.out.1 7 _ rfl
          have z0 := ZD.out.1 0 _ rfl; have z1 := ZD.out.1 1 _ rfl; have z2 := ZD.out.1 2 _ rfl; have z3 := ZD.out.1 3 _ rfl; have z4 := ZD.out.1 4 _ rfl; have z5 := ZD.out.1 5 _ rfl; have z6 := ZD.out.1 6 _ rfl; have z7 := ZD.out.1 7 _ rfl
          have zf := ZD.out.2
          go_wp2_with fail
          refine bodyPost_ret (v := .tuple #[pk.v, .int .i64 0]) (by simp [results, Tryz.results18, go_sem, Pk.v, z0, z1, z2, z3, z4, z5, z6, z7]) rfl ?_
          exact DecodeOut.ret ENDX PR.out (OD.out _ (by (with_reducible repeat' (first | exact Kept.refl | refine Kept.set ?_ ?_ | refine Kept.px _ ?_ ?_ | refine Kept.alloc ?_ _ | refine Kept.ext _ ?_)); (all_goals (first | omega | (simp; done) | (simp; omega)))))
        · have hg : (e2 == 0) = false := by simpa using hz
          have HZ := hid hz
          clear hz
          have PR := hid (decodeP_no HL.out ((read_end P1.out (.inr ⟨HT.out, rfl⟩)).1 rfl) (by rw [← HCV.out]; exact HZ.out))
          have zz := hid (ZD.out)
          have z0 := zz.out.1 0 _ rfl; have z1 := zz.out.1 1 _ rfl; have z2 := zz.out.1 2 _ rfl; have z3 := zz.out.1 3 _ rfl; have z4 := zz.out.1 4 _ rfl; have z5 := zz.out.1 5 _ rfl; have z6 := zz.out.1 6 _ rfl; have z7 := zz.out.1 7 _ rfl
          have zf := zz.out.2
          go_wp2_with fail
          go_region_law (fail)
          all_goals
            go_wp2_with fail
            refine bodyPost_ret (v := .tuple #[zeroPk, .int .i64 e2]) (by simp [results, Tryz.results18, go_sem, zeroPk, z0, z1, z2, z3, z4, z5, z6, z7]) rfl ?_
            exact DecodeOut.err ENDX (by rw [PR.out, ← HCV.out]) HZ.out
      · have hg : (e1 == 0) = false := by simpa using he
        have HE := hid he
        clear he
        have zz := hid (Z.out)
        have z0 := zz.out.1 0 _ rfl; have z1 := zz.out.1 1 _ rfl; have z2 := zz.out.1 2 _ rfl; have z3 := zz.out.1 3 _ rfl; have z4 := zz.out.1 4 _ rfl; have z5 := zz.out.1 5 _ rfl; have z6 := zz.out.1 6 _ rfl; have z7 := zz.out.1 7 _ rfl
        have zf := zz.out.2
        go_wp2_with fail
        go_region_law (fail)
        all_goals
          go_wp2_with fail
          refine bodyPost_ret (v := .tuple #[zeroPk, .int .i64 e1]) (by simp [results, Tryz.results18, go_sem, zeroPk, z0, z1, z2, z3, z4, z5, z6, z7]) rfl ?_
          exact DecodeOut.err ENDX (decodeP_bad HL.out ((read_end P1.out (.inr ⟨HT.out, rfl⟩)).2 HE.out)) HE.out
end Go.Proofs.YthagkijplklemaaGreatDoor
end
