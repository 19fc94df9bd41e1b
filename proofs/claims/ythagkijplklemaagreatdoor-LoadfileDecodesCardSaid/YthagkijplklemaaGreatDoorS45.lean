/- The reference's reader: a class. -/
import Derived.Test.YthagkijplklemaaGreatDoorS44
import Derived.Test.YthagkijplklemaaGreatDoorS24
section
namespace Go.Proofs.YthagkijplklemaaGreatDoor
open Go.ChangeShapes Go.WideShapes Go.ChangeAt Go.RowKit Go.Sc
section
variable {P : Program}
theorem step_appL (w : World) {ops : Array Oper} {o : Oper} {a : Act} {K : Act → World → Prop} {Q : Exit → Act → World → Prop} {E : Prop} (hgd : o.guard = none) (s x : Operand) (t : TypeId)
    (ho : o.op = .call { callee := .builtin .append, args := #[s, x], argTypes := #[t, t] })
    (B : Nat) (e : TypeId) (z : Value) (m bytes : Nat) (ht : P.underlying t = some (.slice e)) (hi : (P.info? e).map (fun i => (i.zero, i.size, i.bytes)) = some (some z, m, bytes)) (hzs : z.cells.size = m) (hm : 0 < m)
    (v : Value) (n : Nat) (xs : List Value) (hs : a.eval s = v) (hown : Hid (w.ownsRow B e m v n xs)) (us : Array Value) (T : TypeId) (k c : Nat)
    (hx : a.eval x = .slice (some ⟨w.heap.size, 0, none⟩) k c) (hk : us.size = k * m) (hu : ∀ u ∈ us.toList, u.oneCell' = true)
    (h63 : n + k ≤ maxLen) (hbytes : (n + k) * bytes ≤ 140737488355328) (hbase : B ≤ w.heap.size)
    (h : ∀ (v' : Value) (w' : World), Hid (w'.ownsRow B e m v' (n + k) (xs ++ us.toList)) → Hid ((w.alloc (.cells us T)).grownBy w' v.ownBlock) → Hid (v'.ownBlock = v.ownBlock ∨ v'.ownBlock = some (w.heap.size + 1)) → K (a.put o.dst v') w') :
    if Region.wanted o (yielded ops a.tmps) = true then Oper.wp P o a (w.alloc (.cells us T)) K Q else E := by
  have hw : Region.wanted o (yielded ops a.tmps) = true := by simp [Region.wanted, hgd]
  rw [if_pos hw]
  obtain ⟨i0, hi', hz0, hz1, hz2⟩ := info_parts hi
  obtain ⟨v', w', hr, h2, h3, _, h5⟩ := run_append_own_at (P := P) (w := w.alloc (.cells us T)) B t o.type e i0 z m bytes ht hi' hz0 hz1 hz2 hzs hm v n xs (hown.out.alloc _) ⟨w.heap.size, 0, none⟩ k c us.toList (by simpa using hk) (by
    intro j q hj
    have hadd : (⟨w.heap.size, 0, none⟩ : Addr).add j = ⟨w.heap.size, j, none⟩ := by unfold Addr.add; split <;> simp_all
    rw [hadd, cell_of_row _ _ j us T (0, 0) (heap_alloc_new w _)]
    simpa using hj) hu h63 hbytes (by simp; omega)
  unfold Oper.wp execOp
  simp only [ho, resolve, invoke, builtin, Sem.run_bind, Sem.run_pure, Result.andThen_ok, List.map_toArray, List.map_cons, List.map_nil, hs, hx, hr]
  exact h v' w' h2 h3 (hid (by simpa using h5))
end
theorem LK.kept {α : Type} {E : El α} {m base lo : Nat} {t T : TypeId} {W wr y w1 : World} {o : Value} {acc : List α} {F : Nat → Prop} (h : LK E m t base o wr acc F) (k : Kept lo W y) (hb : W.heap.size ≤ base) {us : Array Value} (hg : (y.alloc (.cells us T)).grownBy w1 o.ownBlock) : Kept lo W w1 := by
  have hsz := hg.size
  simp only [World.size_alloc] at hsz
  have := k.size
  exact ⟨by omega, fun b h1 h2 => (h.low hg (by omega) (by omega)).trans (k.blk b h1 h2)⟩
/-- The box in which the class lies while it is read. -/
def ClBox (w : World) (D : Nat) (a b c d e f g : Value) : Prop :=
  w.cell? ⟨D, 0, none⟩ = some a ∧ w.cell? ⟨D, 1, none⟩ = some b ∧ w.cell? ⟨D, 2, none⟩ = some c ∧ w.cell? ⟨D, 3, none⟩ = some d ∧ w.cell? ⟨D, 4, none⟩ = some e ∧ w.cell? ⟨D, 5, none⟩ = some f ∧ w.cell? ⟨D, 6, none⟩ = some g ∧ ∀ i, w.frozen? ⟨D, i, none⟩ = false
theorem ClBox.same {w w' : World} {D : Nat} {a b c d e f g : Value} (h : ClBox w D a b c d e f g) (hk : w'.heap[D]? = w.heap[D]?) : ClBox w' D a b c d e f g := by
  have k := fun i : Nat => World.cell?_of_block (w := w) (a := ⟨D, i, none⟩) hk
  obtain ⟨h0, h1, h2, h3, h4, h5, h6, hf⟩ := h
  exact ⟨(k 0).trans h0, (k 1).trans h1, (k 2).trans h2, (k 3).trans h3, (k 4).trans h4, (k 5).trans h5, (k 6).trans h6, fun i => (World.frozen?_of_block (w := w) (a := ⟨D, i, none⟩) hk).trans (hf i)⟩
section
variable {w : World} {D : Nat} {a b c d e f g : Value}
theorem ClBox.set3 (h : ClBox w D a b c d e f g) (v : Value) : ClBox (w.setCell ⟨D, 3, none⟩ v) D a b c v e f g := by
  obtain ⟨h0, h1, h2, h3, h4, h5, h6, hf⟩ := h
  refine ⟨?_, ?_, ?_, ?_, ?_, ?_, ?_, fun i => by simpa using hf i⟩
  · rw [World.cell?_setCell_other]
    · exact h0
    · simp
  · rw [World.cell?_setCell_other]
    · exact h1
    · simp
  · rw [World.cell?_setCell_other]
    · exact h2
    · simp
  · exact World.cell?_setCell_same' _ _ _ (by rw [h3]; rfl)
  · rw [World.cell?_setCell_other]
    · exact h4
    · simp
  · rw [World.cell?_setCell_other]
    · exact h5
    · simp
  · rw [World.cell?_setCell_other]
    · exact h6
    · simp
theorem ClBox.set4 (h : ClBox w D a b c d e f g) (v : Value) : ClBox (w.setCell ⟨D, 4, none⟩ v) D a b c d v f g := by
  obtain ⟨h0, h1, h2, h3, h4, h5, h6, hf⟩ := h
  refine ⟨?_, ?_, ?_, ?_, ?_, ?_, ?_, fun i => by simpa using hf i⟩
  · rw [World.cell?_setCell_other]
    · exact h0
    · simp
  · rw [World.cell?_setCell_other]
    · exact h1
    · simp
  · rw [World.cell?_setCell_other]
    · exact h2
    · simp
  · rw [World.cell?_setCell_other]
    · exact h3
    · simp
  · exact World.cell?_setCell_same' _ _ _ (by rw [h4]; rfl)
  · rw [World.cell?_setCell_other]
    · exact h5
    · simp
  · rw [World.cell?_setCell_other]
    · exact h6
    · simp
theorem ClBox.set5 (h : ClBox w D a b c d e f g) (v : Value) : ClBox (w.setCell ⟨D, 5, none⟩ v) D a b c d e v g := by
  obtain ⟨h0, h1, h2, h3, h4, h5, h6, hf⟩ := h
  refine ⟨?_, ?_, ?_, ?_, ?_, ?_, ?_, fun i => by simpa using hf i⟩
  · rw [World.cell?_setCell_other]
    · exact h0
    · simp
  · rw [World.cell?_setCell_other]
    · exact h1
    · simp
  · rw [World.cell?_setCell_other]
    · exact h2
    · simp
  · rw [World.cell?_setCell_other]
    · exact h3
    · simp
  · rw [World.cell?_setCell_other]
    · exact h4
    · simp
  · exact World.cell?_setCell_same' _ _ _ (by rw [h5]; rfl)
  · rw [World.cell?_setCell_other]
    · exact h6
    · simp
theorem ClBox.set6 (h : ClBox w D a b c d e f g) (v : Value) : ClBox (w.setCell ⟨D, 6, none⟩ v) D a b c d e f v := by
  obtain ⟨h0, h1, h2, h3, h4, h5, h6, hf⟩ := h
  refine ⟨?_, ?_, ?_, ?_, ?_, ?_, ?_, fun i => by simpa using hf i⟩
  · rw [World.cell?_setCell_other]
    · exact h0
    · simp
  · rw [World.cell?_setCell_other]
    · exact h1
    · simp
  · rw [World.cell?_setCell_other]
    · exact h2
    · simp
  · rw [World.cell?_setCell_other]
    · exact h3
    · simp
  · rw [World.cell?_setCell_other]
    · exact h4
    · simp
  · rw [World.cell?_setCell_other]
    · exact h5
    · simp
  · exact World.cell?_setCell_same' _ _ _ (by rw [h6]; rfl)
end
/-- What the kind byte makes of the error. -/
def KindE (hi n e1 e2 : Int) : Prop := (¬ hi < n ∧ e2 = e1) ∨ (hi < n ∧ e2 = if e1 = 0 then 4 else e1)
theorem kind_post {β : Type} {P : Rr β} {x : β} {bs : List Int} {a a' : Nat} {hi n e1 e2 e' : Int} (hk : KindE hi n e1 e2) (h : Post P bs a e2 x a' e') : Post (if hi < n then Rr.fail 4 else P) bs a e1 x a' e' := by
  rcases hk with ⟨hn, rfl⟩ | ⟨hn, he⟩
  · rw [if_neg hn]; exact h
  · rw [if_pos hn]
    refine ⟨fun h0 => ?_, fun y r _ k => by (cases k), fun d h0 k => ?_⟩
    · rw [if_neg h0] at he; subst he; exact h.stay h0
    · cases k
      rw [if_pos h0] at he
      subst he
      exact ⟨h.stay (by decide), by decide⟩
def CutK (p : Nat) (W : World) (bs : List Int) (a : Nat) (hi n e1 : Int) (wx : World) : Prop := ∃ (y2 : Px p W) (e2 : Int), wx = y2.val ∧ Hid (Rs p y2.val bs a e2) ∧ Hid (KindE hi n e1 e2)
abbrev nilV : Value := .slice none 0 0
abbrev zV : Value := .int .i64 0
/-- What holds behind the first list of a class. -/
def CutX (p : Nat) (w : World) (bs : List Int) (D B1 a : Nat) (e : Int) (s : Rf) (q : Bool) (wx : World) : Prop :=
  ∃ (sl : Sl Rf) (es : List Rf) (a' : Nat) (e' : Int), Fp p w wx ∧ RepL eRf 2 id B1 wx sl.v es ∧ Rs p wx bs a' e' ∧ Post (listP refP) bs a e es a' e' ∧ ClBox wx w.heap.size zV zV (.bool false) nilV nilV nilV nilV ∧ ClBox wx D (.int .i64 s.p) (.int .i64 s.c) (.bool q) sl.v nilV nilV nilV ∧ B1 ≤ wx.heap.size
def LoopX (p : Nat) (w : World) (bs : List Int) (D B1 a3 : Nat) (e4 : Int) (s : Rf) (q : Bool) (k : Nat) (wr : World) : Prop :=
  ∃ (acc : List Rf) (F : Nat → Prop) (a5 : Nat) (e5 : Int) (o : Value), acc.length = k ∧ Fp p w wr ∧ LK eRf 2 44 B1 o wr acc F ∧ Rs p wr bs a5 e5 ∧ Post (repP refP k) bs a3 e4 (acc.map id) a5 e5 ∧ ClBox wr w.heap.size zV zV (.bool false) nilV nilV nilV nilV ∧ ClBox wr D (.int .i64 s.p) (.int .i64 s.c) (.bool q) o nilV nilV nilV ∧ B1 ≤ wr.heap.size
def LoopY (p : Nat) (w : World) (bs : List Int) (D B1 : Nat) (W2 : World) (a8 : Nat) (e8 : Int) (s : Rf) (q : Bool) (u2 u3 u4 : Value) (k : Nat) (wr : World) : Prop :=
  ∃ (acc : List Im) (F : Nat → Prop) (a9 : Nat) (e9 : Int) (o : Value), acc.length = k ∧ Fp p w wr ∧ LK eIm 3 59 W2.heap.size o wr acc F ∧ Rs p wr bs a9 e9 ∧ Post (repP implP k) bs a8 e8 (acc.map Im.er) a9 e9 ∧ ClBox wr w.heap.size zV zV (.bool false) nilV nilV nilV nilV ∧ ClBox wr D (.int .i64 s.p) (.int .i64 s.c) (.bool q) u2 u3 u4 o ∧ Kept B1 W2 wr
def CutY (p : Nat) (w : World) (bs : List Int) (D B1 : Nat) (W2 : World) (a7 : Nat) (e7 : Int) (s : Rf) (q : Bool) (u2 u3 u4 : Value) (wx : World) : Prop :=
  ∃ (sl : Sl Im) (is : List Im) (a' : Nat) (e' : Int), Fp p w wx ∧ RepL eIm 3 Im.er W2.heap.size wx sl.v is ∧ Rs p wx bs a' e' ∧ Post (listP implP) bs a7 e7 is a' e' ∧ ClBox wx w.heap.size zV zV (.bool false) nilV nilV nilV nilV ∧ ClBox wx D (.int .i64 s.p) (.int .i64 s.c) (.bool q) u2 u3 u4 sl.v ∧ Kept B1 W2 wx
set_option maxRecDepth 20000 in
set_option maxHeartbeats 4000000 in
theorem jclass_any (p : Nat) (w : World) (bs : List Int) (a : Nat) (e : Int) (hR : Hid (Rs p w bs a e)) : Reads Tryz.prog 77 #[.pointer (some ⟨p, 0, none⟩)] p w bs a e clP RepCl := by
  unfold Reads
  have hp := hR.out.lt
  haveI : InW p w := ⟨hp⟩
  go_enter Tryz.func77, Tryz.ntmps77
  go_upto_region 2 with (first | (go_at_call 75; refine (jnum_any p _ bs a e (hid (by (with_reducible repeat' (first | exact Hid.out (by assumption) | refine Rs.alloc ?_ _ | refine Rs.ext _ ?_ | refine Rs.drew ?_ | refine Rs.setCell ?_ (by omega) _)); first | done | fail))).go (fun n a1 e1 v y hx hR h1 => ?_); obtain ⟨rfl, l1n, l2n⟩ := hx.out; clear hx; have hs := y.size; (try simp at hs)) | fail)
  haveI : Nq w.heap.size p y.val := ⟨by omega, by omega⟩
  have hRy : Hid (Rs p y.val bs a1 e1) := by assumption
  have g0 := hid (show Fp p w y.val from (by (with_reducible repeat' (first | exact Fp.refl | exact Hid.out (by assumption) | refine Fp.alloc ?_ _ | refine fp_ext _ ?_ | refine fp_px _ ?_ | refine Fp.drew ?_ | refine Fp.setCell ?_ (.inr (by omega)) _)); first | done | fail))
  have z0' : ClBox y.val w.heap.size zV zV (.bool false) nilV nilV nilV nilV := by unfold ClBox; simp [Px.cell, Px.frozen]
  have z0 := hid z0'
  clear z0'
  go_upto_if 12 with fail
  go_cut [] (CutK p y.val bs a1 1 n e1)
  case first =>
    by_cases hn : 1 < n
    · have HN := hid hn
      go_wp2_with (first | (go_at_call 40; refine (jfail_any p _ bs a1 e1 4 (hid (by (with_reducible repeat' (first | exact Hid.out (by assumption) | refine Rs.alloc ?_ _ | refine Rs.ext _ ?_ | refine Rs.drew ?_ | refine Rs.setCell ?_ (by omega) _)); first | done | fail))).mono ?_; intro en w' hF; obtain ⟨rfl, y, e2, rfl, h2, hR⟩ := hF; have hs := y.size; (try simp at hs)) | fail)
      go_meet
      exact ⟨_, e2, rfl, by assumption, hid (.inr ⟨by have := HN.out; omega, h2⟩)⟩
    · have HN := hid hn
      go_wp2_with fail
      go_meet
      exact ⟨⟨y.val, Fp.refl⟩, e1, rfl, hRy, hid (.inl ⟨by have := HN.out; omega, rfl⟩)⟩
  case rest =>
    obtain ⟨y2, e2, rfl, hR2, HK⟩ := hcut
    have z2 : Hid (ClBox y2.val w.heap.size zV zV (.bool false) nilV nilV nilV nilV) := hid (z0.out.same (y2.fp.block _ (by omega) (by omega)))
    have g2 := hid (g0.out.trans y2.fp)
    have hs2 := y2.fp.size
    clear z0 g0 hRy hR
    go_upto_region 5 with (first | (go_at_call 145; refine (jref_any p _ bs a1 e2 (hid (by (with_reducible repeat' (first | exact Hid.out (by assumption) | refine Rs.alloc ?_ _ | refine Rs.ext _ ?_ | refine Rs.drew ?_ | refine Rs.setCell ?_ (by omega) _)); first | done | fail))).go (fun x a2 e3 v y hx hR h2 => ?_); obtain ⟨s, F, rfl, hq, hF, hok⟩ := hx.out; simp only [id] at hq; subst hq; have oks := hid (hok _ (Nat.le_refl _) fun _ _ => rfl); clear hx hok hF F; have hs := y.size; (try simp at hs)) | fail)
    obtain ⟨q, hq⟩ : ∃ q : Bool, q = (n == 1) := ⟨_, rfl⟩
    rw [← hq]
    have HQ := hid hq
    clear hq
    have hRy : Hid (Rs p y.val bs a2 e3) := by assumption
    have hs3 := y.fp.size
    have g3 := hid (g2.out.trans y.fp)
    have z3 : Hid (ClBox y.val w.heap.size zV zV (.bool false) nilV nilV nilV nilV) := hid (z2.out.same (y.fp.block _ (by omega) (by omega)))
    obtain ⟨D, hD⟩ : ∃ D, D = y.val.heap.size := ⟨_, rfl⟩
    have HS := oks.out
    obtain ⟨sp, sc⟩ := s
    refine gen_v (fun V => Fp p w V ∧ Rs p V bs a2 e3 ∧ ClBox V w.heap.size zV zV (.bool false) nilV nilV nilV nilV ∧ ClBox V D (.int .i64 sp) (.int .i64 sc) (.bool q) nilV nilV nilV nilV ∧ D < V.heap.size) ⟨g3.out.alloc _, hRy.out.alloc _, z3.out.same (Below.heap_alloc _ _ _ (by omega)), by rw [hD]; unfold ClBox; simp, by rw [hD]; simp⟩ ?_
    rintro V ⟨gV, rV, zV', bV, hDV⟩
    rw [← hD]
    have G := hid gV
    have RV := hid rV
    have Z := hid zV'
    have BX := hid bV
    have hwV := gV.size
    have hwD : w.heap.size < D := by omega
    have hpD : p < D := by omega
    haveI : InW p V := ⟨by omega⟩
    haveI : Nq w.heap.size p V := ⟨by omega, by omega⟩
    haveI : Nq D p V := ⟨hDV, by omega⟩
    clear gV rV zV' bV g3 z3 hRy g2 z2 hD
    go_upto_block 0 with (first | (go_at_call 75; refine (jnum_any p _ bs a2 e3 (hid (by (with_reducible repeat' (first | exact Hid.out (by assumption) | refine Rs.alloc ?_ _ | refine Rs.ext _ ?_ | refine Rs.drew ?_ | refine Rs.setCell ?_ (by omega) _)); first | done | fail))).go (fun N0 a3 e4 v y hx hR h3 => ?_); obtain ⟨rfl, l1N0, l2N0⟩ := hx.out; clear hx; have hs := y.size; (try simp at hs)) | fail)
    have rY : Hid (Rs p y.val bs a3 e4) := by assumption
    have gY := hid (G.out.trans y.fp)
    have zY := hid (Z.out.same (y.fp.block _ (by omega) (by omega)))
    have bY := hid (BX.out.same (y.fp.block _ hDV (by omega)))
    obtain ⟨B1, hB1⟩ : ∃ B1, B1 = y.val.heap.size := ⟨_, rfl⟩
    have hVB : V.heap.size ≤ B1 := by have := y.fp.size; omega
    obtain ⟨N, rfl⟩ := Int.eq_ofNat_of_zero_le l1N0
    go_cut [] (CutX p w bs D B1 a2 e3 ⟨sp, sc⟩ q)
    case first =>
      go_wp2_with fail
      go_loopw [6] (fun i wr => ∃ k : Nat, k ≤ N ∧ i = .int .i64 k ∧ LoopX p w bs D B1 a3 e4 ⟨sp, sc⟩ q k wr) (fun i _ => N - (intOf i).toNat)
      case atStart => exact ⟨0, Nat.zero_le _, rfl, [], _, a3, e4, nilV, rfl, gY.out, LK.start, rY.out, .pure _, zY.out, bY.out, by omega⟩
      case round =>
        clear rY gY zY bY hB1
        obtain ⟨k, hk, rfl, acc, F, a5, e5, o, hak, hf, hI, hRs, hP, hz, hb, hBw⟩ := hrel
        have HI := hid hI
        have HA := hid hak
        have hfp := hid hf
        have HR := hid hRs
        have HP := hid hP
        have HZ := hid hz
        have HB := hid hb
        have hwr := hf.size
        have hc2 := hRs.err
        have hcD := hb.2.2.2.1
        have hfD := hb.2.2.2.2.2.2.2 3
        haveI : InW p wr := ⟨hRs.lt⟩
        haveI : LeW B1 wr := ⟨hBw⟩
        haveI : Nq D p wr := ⟨by omega, by omega⟩
        haveI : InW D wr := ⟨by omega⟩
        haveI : Nq w.heap.size p wr := ⟨by omega, by omega⟩
        clear hI hak hf hRs hP hz hb
        by_cases hlt : k < N
        · by_cases he : e5 = 0
          · subst he
            have hal : acc.length ≤ 255 := by have := HA.out; omega
            go_wp2_with fail
            go_region_law (first | (refine step_appL _ (by rfl) _ _ 45 (by rfl) B1 44 (.agg #[.int .i64 0, .int .i64 0]) 2 16 Tryz.underlying45 infRf rfl (by decide) o acc.length (acc.flatMap (El.cells eRf)) (by rfl) hon #[.int .i64 c.p, .int .i64 c.c] _ 1 1 (by rfl) (by rfl) (by intro q hq; simp at hq; (repeat' (rcases hq with rfl | hq)); all_goals (first | rfl | (subst hq; rfl))) (by unfold maxLen; omega) (by omega) LeW.le ?_; intro v' w1 ho' hg hat; obtain ⟨va, vc, rfl, hfm⟩ := own_form ho'.out; clear hfm; have hlo := hid (HI.out.low hg.out (D := D) (by omega) (Nat.lt_of_lt_of_le (show D < wr.heap.size by omega) y.fp.size)); have hcw : w1.cell? ⟨D, 3, none⟩ = some o := ((World.cell?_of_block (w := y.val) (a := ⟨D, 3, none⟩) hlo.out).trans (Px.cell y D 3)).trans hcD; have hfw : w1.frozen? ⟨D, 3, none⟩ = false := ((World.frozen?_of_block (w := y.val) (a := ⟨D, 3, none⟩) hlo.out).trans (Px.frozen y D 3)).trans hfD) | (go_simp; go_at_call 145; refine (jref_any p _ bs a5 0 (hid (by (with_reducible repeat' (first | exact Hid.out (by assumption) | refine Rs.alloc ?_ _ | refine Rs.ext _ ?_ | refine Rs.drew ?_ | refine Rs.setCell ?_ (by omega) _)); first | done | fail))).go (fun x a6 e6 v y hrp hR2 h5 => ?_); obtain ⟨c, G, rfl, hc, hG, hok⟩ := hrp.out; have HC := hid hc; have HG := hid hG; have HOK := hid hok; clear hc hG hok hrp; have hkp := hid (show Kept B1 wr y.val from .px y (show Kept B1 wr wr.drew from ⟨Nat.le_refl _, fun _ _ _ => rfl⟩) (by omega)); haveI : LeW B1 y.val := ⟨Nat.le_trans hBw y.fp.size⟩; have hon : Hid (y.val.ownsRow B1 44 2 o acc.length (acc.flatMap (El.cells eRf))) := hid (HI.out.keep hkp.out).own; have hyc : y.val.cell? ⟨D, 3, none⟩ = some o := (Px.cell y D 3).trans hcD))
            all_goals
              go_wp2_with fail
              go_roundw
              case rel =>
                have hsz := hg.out.size
                simp only [World.size_alloc] at hsz
                have hyz : wr.heap.size ≤ y.val.heap.size := y.fp.size
                have b0 : ∀ b, b < D → b ≠ p → (w1.setCell ⟨D, 3, none⟩ (.slice va (acc.length + 1) vc)).heap[b]? = wr.heap[b]? := fun b h1 h2 => ((Below.heap_setCell _ _ _ _ (by simp only; omega)).trans (HI.out.low hg.out (by omega) (by omega))).trans (y.fp.block b (show b < wr.heap.size by omega) h2)
                refine ⟨k + 1, by omega, by go_num, acc ++ [c], _, a6, e6, _, by simp [HA.out], (HI.out.fp (by omega) (hfp.out.drew.trans y.fp) hg.out).setCell (.inr (by omega)) _, (HI.out.step hkp.out HG.out hBw HOK.out (own_eq ho'.out (by simp) (by simp [eRf])) hg.out hat.out).keep (Kept.refl.set (.inl (by omega))), (HI.out.rs (by omega) hR2.out hg.out).setCell (by omega) _, ?_, HZ.out.same (b0 _ (by omega) (by omega)), ((HB.out.same (y.fp.block D (show D < wr.heap.size by omega) (by omega))).same hlo.out).set3 _, by rw [size_setCell]; omega⟩
                rw [List.map_append, List.map_cons, List.map_nil, HC.out]
                exact HP.out.snoc h5.out
              case measure => simp [intOf]; omega
          · have hg2 : (e5 == 0) = false := by simp [he]
            have HE := hid he
            clear he
            go_wp2_with fail
            go_meet
            obtain ⟨va, vc, rfl, -⟩ := own_form HI.out.own
            exact ⟨⟨va, vc, acc⟩, acc.map id, a5, e5, hfp.out, by simpa using HI.out.done (er := id) (fun x _ => rfl), HR.out, Post.list h3.out HP.out OM (.inr HE.out), HZ.out, HB.out, hBw⟩
        · obtain rfl : k = N := by omega
          go_wp2_with fail
          go_meet
          obtain ⟨va, vc, rfl, -⟩ := own_form HI.out.own
          exact ⟨⟨va, vc, acc⟩, acc.map id, a5, e5, hfp.out, by simpa using HI.out.done (er := id) (fun x _ => rfl), HR.out, Post.list h3.out HP.out OM (.inl (by simp)), HZ.out, HB.out, hBw⟩
    case rest =>
      obtain ⟨sl, es, a5, e5, gX, hE, rX, pE, zX, bX, hBX⟩ := hcut
      have HG2 := hid gX
      have HE := hid hE
      have HRX := hid rX
      have PE := hid pE
      have HZX := hid zX
      have HBX := hid bX
      have hwx := gX.size
      have d4 := bX.2.2.2.2.1
      have d5 := bX.2.2.2.2.2.1
      have f4 := bX.2.2.2.2.2.2.2 4
      have f5 := bX.2.2.2.2.2.2.2 5
      haveI : InW p wc := ⟨rX.lt⟩
      haveI : InW D wc := ⟨by omega⟩
      haveI : Nq D p wc := ⟨by omega, by omega⟩
      haveI : Nq w.heap.size p wc := ⟨by omega, by omega⟩
      clear gX hE rX pE zX bX rY gY zY bY hB1
      go_upto_block 2 with (first | (go_at_call 79; refine (jtypes_any p _ bs a5 e5 (hid (by (with_reducible repeat' (first | exact Hid.out (by assumption) | refine Rs.alloc ?_ _ | refine Rs.ext _ ?_ | refine Rs.drew ?_ | refine Rs.setCell ?_ (by omega) _)); first | done | fail))).go (fun fs a6 e6 v yT hx6 hR h6 => ?_); obtain ⟨s2, F2, rfl, hq2, hF2, hok2⟩ := hx6.out; have sT := yT.size; (try simp at sT)) | (go_at_call 146; refine (jvirt_any p _ bs a6 e6 (hid (by (with_reducible repeat' (first | exact Hid.out (by assumption) | refine Rs.alloc ?_ _ | refine Rs.ext _ ?_ | refine Rs.drew ?_ | refine Rs.setCell ?_ (by omega) _)); first | done | fail))).go (fun vs a7 e7 v yV hx7 hR h7 => ?_); obtain ⟨s3, F3, rfl, hq3, hF3, hok3⟩ := hx7.out; have sV := yV.size; (try simp at sV)) | (go_at_call 75; refine (jnum_any p _ bs a7 e7 (hid (by (with_reducible repeat' (first | exact Hid.out (by assumption) | refine Rs.alloc ?_ _ | refine Rs.ext _ ?_ | refine Rs.drew ?_ | refine Rs.setCell ?_ (by omega) _)); first | done | fail))).go (fun m a8 e8 v yN hx8 hRN h8 => ?_); obtain ⟨rfl, l1m, l2m⟩ := hx8.out; have sN := yN.size; (try simp at sN)) | fail)
      have RN : Hid (Rs p yN.val bs a8 e8) := hRN
      have hsT : wc.heap.size ≤ yT.val.heap.size := yT.fp.size
      have hsV : yT.val.heap.size ≤ yV.val.heap.size := by have := yV.fp.size; rwa [size_setCell] at this
      have hsN : yV.val.heap.size ≤ yN.val.heap.size := by have := yN.fp.size; rwa [size_setCell] at this
      have hDc : D < wc.heap.size := by omega
      refine gen_v (fun W2 => Fp p w W2 ∧ Rs p W2 bs a8 e8 ∧ ClBox W2 w.heap.size zV zV (.bool false) nilV nilV nilV nilV ∧ ClBox W2 D (.int .i64 sp) (.int .i64 sc) (.bool q) sl.v s2.v s3.v nilV ∧ RepL eRf 2 id B1 W2 sl.v es ∧ RepL eTy 3 id B1 W2 s2.v fs ∧ RepL eInt 1 id B1 W2 s3.v vs ∧ B1 ≤ W2.heap.size)
        ⟨((((HG2.out.trans yT.fp).setCell (.inr (by omega)) _).trans yV.fp).setCell (.inr (by omega)) _).trans yN.fp, RN.out,
          ((((HZX.out.same (yT.fp.block _ (by omega) (by omega))).same (Below.heap_setCell _ _ _ _ (by simp only; omega))).same (yV.fp.block _ (by rw [size_setCell]; omega) (by omega))).same (Below.heap_setCell _ _ _ _ (by simp only; omega))).same (yN.fp.block _ (by rw [size_setCell]; omega) (by omega)),
          ((((HBX.out.same (yT.fp.block _ (by omega) (by omega))).set4 _).same (yV.fp.block _ (by rw [size_setCell]; omega) (by omega))).set5 _).same (yN.fp.block _ (by rw [size_setCell]; omega) (by omega)),
          HE.out.keep (show Kept B1 wc yN.val from (by (with_reducible repeat' (first | exact Kept.refl | refine Kept.set ?_ ?_ | refine Kept.px _ ?_ ?_ | refine Kept.alloc ?_ _ | refine Kept.ext _ ?_)); (all_goals (first | omega | (simp; done) | (simp; omega))))), (hx6.out.keep (show Kept wc.heap.size yT.val yN.val from (by (with_reducible repeat' (first | exact Kept.refl | refine Kept.set ?_ ?_ | refine Kept.px _ ?_ ?_ | refine Kept.alloc ?_ _ | refine Kept.ext _ ?_)); (all_goals (first | omega | (simp; done) | (simp; omega)))))).from_ hBX, (hx7.out.keep (show Kept (yT.val.setCell ⟨D, 4, none⟩ s2.v).heap.size yV.val yN.val from Kept.px _ (Kept.refl.set (.inl (by rw [size_setCell]; omega))) (by rw [size_setCell]; omega))).from_ (by rw [size_setCell]; omega), by omega⟩ ?_
      clear hx6 hx7 hF2 hok2 hF3 hok3 HG2 HZX HBX HE RN hRN hR HRX d4 d5 f4 f5 hsN hsV hsT sT sV sN hx8 hDc hwx hBX
      rintro W2 ⟨gW, rW, zW, bW, hE1, hE2, hE3, hBW⟩
      have GW := hid gW
      have RW := hid rW
      have ZW := hid zW
      have BW := hid bW
      have X1 := hid hE1
      have X2 := hid hE2
      have X3 := hid hE3
      have hww := gW.size
      have hpW := rW.lt
      have hDW : D < W2.heap.size := by omega
      clear gW rW zW bW hE1 hE2 hE3
      obtain ⟨M, rfl⟩ := Int.eq_ofNat_of_zero_le l1m
      go_cut [] (CutY p w bs D B1 W2 a7 e7 ⟨sp, sc⟩ q sl.v s2.v s3.v)
      case first =>
        go_wp2_with fail
        go_loopw [7, 8] (fun i _ wr => ∃ k : Nat, k ≤ M ∧ i = .int .i64 k ∧ LoopY p w bs D B1 W2 a8 e8 ⟨sp, sc⟩ q sl.v s2.v s3.v k wr) (fun i _ _ => M - (intOf i).toNat)
        case atStart => exact ⟨0, Nat.zero_le _, rfl, [], _, a8, e8, nilV, rfl, GW.out, LK.start, RW.out, .pure _, ZW.out, BW.out, Kept.refl⟩
        case round =>
          clear GW RW ZW BW X1 X2 X3
          obtain ⟨k, hk, rfl, acc, F, a9, e9, o, hak, hf, hI, hRs, hP, hz, hb, hkk⟩ := hrel
          have HI := hid hI
          have HA := hid hak
          have hfp := hid hf
          have HR := hid hRs
          have HP := hid hP
          have HZ := hid hz
          have HB := hid hb
          have HKK := hid hkk
          have hwr := hf.size
          have hBw := hkk.size
          have hc2 := hRs.err
          have hcD := hb.2.2.2.2.2.2.1
          haveI : InW p wr := ⟨hRs.lt⟩
          haveI : LeW W2.heap.size wr := ⟨hBw⟩
          haveI : Nq D p wr := ⟨by omega, by omega⟩
          haveI : InW D wr := ⟨by omega⟩
          haveI : Nq w.heap.size p wr := ⟨by omega, by omega⟩
          clear hI hak hf hRs hP hz hb hkk
          by_cases hlt : k < M
          · by_cases he : e9 = 0
            · subst he
              have hal : acc.length ≤ 255 := by have := HA.out; omega
              go_wp2_with (first | (go_at_call 145; refine (jref_any p _ bs a9 0 (hid (by (with_reducible repeat' (first | exact Hid.out (by assumption) | refine Rs.alloc ?_ _ | refine Rs.ext _ ?_ | refine Rs.drew ?_ | refine Rs.setCell ?_ (by omega) _)); first | done | fail))).go (fun x a10 e10 v y1 hx1 hR1 h10 => ?_); obtain ⟨c, Gc, rfl, hc, -, hcok⟩ := hx1.out; simp only [id] at hc; subst hc; have okc := hid (hcok _ (Nat.le_refl _) fun _ _ => rfl); clear hx1 hcok; obtain ⟨cp, cc⟩ := c; have s1 := y1.size; haveI : InW p y1.val := inferInstance) | (go_at_call 146; refine (jnums_any p _ bs a10 e10 (hid (by (with_reducible repeat' (first | exact Hid.out (by assumption) | refine Rs.alloc ?_ _ | refine Rs.ext _ ?_ | refine Rs.drew ?_ | refine Rs.setCell ?_ (by omega) _)); first | done | fail))).go (fun ms a11 e11 v y2 hx2 hR2 h11 => ?_); obtain ⟨t, Ft, rfl, hqt, hFt, hokt⟩ := hx2.out; simp only [List.map_id] at hqt; subst hqt; have HFt := hid hFt; have HOKt := hid hokt; clear hFt hokt hx2; have s2x := y2.size; (try simp at s2x); have hkp := hid (show Kept W2.heap.size wr (y2.val.setCell ⟨y1.val.heap.size, 2, none⟩ (.slice t.a t.xs.length t.c)) from Kept.set (Kept.px y2 (Kept.alloc (Kept.px y1 Kept.refl hpW) _) hpW) (.inr (by omega))); have hon : Hid ((y2.val.setCell ⟨y1.val.heap.size, 2, none⟩ (.slice t.a t.xs.length t.c)).ownsRow W2.heap.size 59 3 o acc.length (acc.flatMap (El.cells eIm))) := hid (HI.out.keep hkp.out).own; have hYD := hid (((((HB.out.same (y1.fp.block D (by omega) (by omega))).same (Below.heap_alloc _ _ D (by omega))).same (y2.fp.block D (by simp; omega) (by omega))).same (Below.heap_setCell _ _ _ _ (by simp only; omega)) : ClBox (y2.val.setCell ⟨y1.val.heap.size, 2, none⟩ (.slice t.a t.xs.length t.c)) D _ _ _ _ _ _ _)); haveI : LeW W2.heap.size y2.val := ⟨by omega⟩) | (at_builtin; refine wpList_appL (y2.val.setCell ⟨y1.val.heap.size, 2, none⟩ (.slice t.a t.xs.length t.c)) rfl _ _ 47 rfl W2.heap.size 59 (.agg #[.int .i64 0, .int .i64 0, .slice none 0 0]) 3 40 Tryz.underlying47 infIm rfl (by decide) o acc.length (acc.flatMap (El.cells eIm)) rfl hon #[.int .i64 cp, .int .i64 cc, .slice t.a t.xs.length t.c] _ 1 1 (by rw [size_setCell]; rfl) rfl (by intro q hq; simp at hq; (repeat' (rcases hq with rfl | hq)); all_goals (first | rfl | (subst hq; rfl))) (by unfold maxLen; omega) (by omega) (by rw [size_setCell]; omega) ?_; intro v' w1 ho' hg hat; obtain ⟨va, vc, rfl, hfm⟩ := own_form ho'.out; clear hfm; have hlo := hid (HI.out.low hg.out (D := D) hDW (by rw [size_setCell]; omega)); have hcw := (hYD.out.same hlo.out).2.2.2.2.2.2.1; have hfw := (hYD.out.same hlo.out).2.2.2.2.2.2.2 6) | fail)
              go_roundw
              case rel =>
                have hsz := hg.out.size
                simp only [World.size_alloc, size_setCell] at hsz
                have hYs : (y2.val.setCell ⟨y1.val.heap.size, 2, none⟩ (.slice t.a t.xs.length t.c)).heap.size = y2.val.heap.size := size_setCell _ _ _
                have s2y : y1.val.heap.size + 1 ≤ y2.val.heap.size := by have := y2.fp.size; simpa using this
                have hF : ∀ b, Ft b → y1.val.heap.size + 1 ≤ b ∧ b < y2.val.heap.size := fun b hb => by have := HFt.out b hb; simpa using this
                have b0 : ∀ b, b < D → b ≠ p → (w1.setCell ⟨D, 6, none⟩ (.slice va (acc.length + 1) vc)).heap[b]? = wr.heap[b]? := fun b h1 h2 => (((((Below.heap_setCell _ _ _ _ (by simp only; omega)).trans (HI.out.low hg.out (by omega) (by omega))).trans (Below.heap_setCell _ _ _ _ (by simp only; omega))).trans (y2.fp.block b (by simp; omega) h2)).trans (Below.heap_alloc _ _ b (by omega))).trans (y1.fp.block b (by omega) h2)
                refine ⟨k + 1, by omega, by go_num, acc ++ [⟨⟨cp, cc⟩, t⟩], _, a11, e11, _, by simp [HA.out],
                  (HI.out.fp (by omega) ((((hfp.out.trans y1.fp).alloc _).trans y2.fp).setCell (.inr (by omega)) _) hg.out).setCell (.inr (by omega)) _,
                  (HI.out.step hkp.out (F' := Ft) (fun b hb => by have := hF b hb; omega) hBw (fun w' hs hsame => ⟨okc.out.1, okc.out.2, HOKt.out w' (by omega) fun b hb => (hsame b hb).trans (Below.heap_setCell _ _ _ _ (by have := hF b hb; simp only; omega))⟩) (own_eq ho'.out (by simp) (by simp [eIm])) hg.out hat.out).keep (Kept.refl.set (.inl (by omega))),
                  (HI.out.rs (by omega) (hR2.out.setCell (by omega) _) hg.out).setCell (by omega) _, ?_, HZ.out.same (b0 _ (by omega) (by omega)), (hYD.out.same hlo.out).set6 _,
                  (LK.kept HI.out (Kept.set (Kept.px y2 (Kept.alloc (Kept.px y1 HKK.out (by omega)) _) (by omega)) (.inr (by omega))) (Nat.le_refl _) hg.out).set (.inl (by omega))⟩
                rw [List.map_append, List.map_cons, List.map_nil]
                exact HP.out.snoc (h10.out.bind (h11.out.bind (.pure _)))
              case measure => simp [intOf]; omega
            · have hg2 : (e9 == 0) = false := by simp [he]
              have HE := hid he
              clear he
              go_wp2_with fail
              go_meet
              obtain ⟨va, vc, rfl, -⟩ := own_form HI.out.own
              exact ⟨⟨va, vc, acc⟩, acc.map Im.er, a9, e9, hfp.out, HI.out.done (er := Im.er) (fun x _ => rfl), HR.out, Post.list h8.out HP.out OM (.inr HE.out), HZ.out, HB.out, HKK.out⟩
          · obtain rfl : k = M := by omega
            go_wp2_with fail
            go_meet
            obtain ⟨va, vc, rfl, -⟩ := own_form HI.out.own
            exact ⟨⟨va, vc, acc⟩, acc.map Im.er, a9, e9, hfp.out, HI.out.done (er := Im.er) (fun x _ => rfl), HR.out, Post.list h8.out HP.out OM (.inl (by simp)), HZ.out, HB.out, HKK.out⟩
      case rest =>
        obtain ⟨s4, is, a9, e9, gY, hI4, rY, pI, zY, bY, kY⟩ := hcut
        have b0 := bY.1; have b1 := bY.2.1; have b2 := bY.2.2.1; have b3 := bY.2.2.2.1; have b4 := bY.2.2.2.2.1; have b5 := bY.2.2.2.2.2.1; have b6 := bY.2.2.2.2.2.2.1
        have z0 := zY.1; have z1 := zY.2.1; have z2 := zY.2.2.1; have z3 := zY.2.2.2.1; have z4 := zY.2.2.2.2.1; have z5 := zY.2.2.2.2.2.1; have z6 := zY.2.2.2.2.2.2.1
        have zf := zY.2.2.2.2.2.2.2
        have GY := hid gY
        have HI4 := hid hI4
        have RY := hid rY
        have PI := hid pI
        have KY := hid kY
        clear gY hI4 rY pI kY zY bY GW RW ZW BW
        go_wp2_with fail
        have q0 : (wc.cell? ⟨w.heap.size, 0, none⟩).isSome = true := by rw [z0]; rfl
        have q1 : (wc.cell? ⟨w.heap.size, 1, none⟩).isSome = true := by rw [z1]; rfl
        have q2 : (wc.cell? ⟨w.heap.size, 2, none⟩).isSome = true := by rw [z2]; rfl
        have q3 : (wc.cell? ⟨w.heap.size, 3, none⟩).isSome = true := by rw [z3]; rfl
        have q4 : (wc.cell? ⟨w.heap.size, 4, none⟩).isSome = true := by rw [z4]; rfl
        have q5 : (wc.cell? ⟨w.heap.size, 5, none⟩).isSome = true := by rw [z5]; rfl
        have q6 : (wc.cell? ⟨w.heap.size, 6, none⟩).isSome = true := by rw [z6]; rfl
        refine bodyPost_ret (v := .agg #[.int .i64 sp, .int .i64 sc, .bool q, .slice sl.a sl.xs.length sl.c, .slice s2.a s2.xs.length s2.c, .slice s3.a s3.xs.length s3.c, .slice s4.a s4.xs.length s4.c]) (by simp [results, Tryz.results77, go_sem, z0, z1, z2, z3, z4, z5, z6]) rfl ?_
        have hq := HQ.out
        subst hq
        refine OutR.ret (a' := a9) (e' := e9) (by (with_reducible repeat' (first | exact Fp.refl | exact Hid.out (by assumption) | refine Fp.alloc ?_ _ | refine fp_ext _ ?_ | refine fp_px _ ?_ | refine Fp.drew ?_ | refine Fp.setCell ?_ (.inr (by omega)) _)); first | done | fail) (rep_cl (e := es) (f := fs) (v := vs) (i := is) ?_ ?_ ?_ ?_ HS) (by (with_reducible repeat' (first | exact Hid.out (by assumption) | refine Rs.alloc ?_ _ | refine Rs.ext _ ?_ | refine Rs.drew ?_ | refine Rs.setCell ?_ (by omega) _)); first | done | fail) (h1.out.bind (kind_post HK.out (h2.out.bind (PE.out.bind (h6.out.bind (h7.out.bind (PI.out.bind (.pure _))))))))
        · exact ((X1.out.keep KY.out).keep (by (with_reducible repeat' (first | exact Kept.refl | refine Kept.set ?_ ?_ | refine Kept.px _ ?_ ?_ | refine Kept.alloc ?_ _ | refine Kept.ext _ ?_)); (all_goals (first | omega | (simp; done) | (simp; omega))))).from_ (by omega)
        · exact ((X2.out.keep KY.out).keep (by (with_reducible repeat' (first | exact Kept.refl | refine Kept.set ?_ ?_ | refine Kept.px _ ?_ ?_ | refine Kept.alloc ?_ _ | refine Kept.ext _ ?_)); (all_goals (first | omega | (simp; done) | (simp; omega))))).from_ (by omega)
        · exact ((X3.out.keep KY.out).keep (by (with_reducible repeat' (first | exact Kept.refl | refine Kept.set ?_ ?_ | refine Kept.px _ ?_ ?_ | refine Kept.alloc ?_ _ | refine Kept.ext _ ?_)); (all_goals (first | omega | (simp; done) | (simp; omega))))).from_ (by omega)
        · exact (HI4.out.keep (by (with_reducible repeat' (first | exact Kept.refl | refine Kept.set ?_ ?_ | refine Kept.px _ ?_ ?_ | refine Kept.alloc ?_ _ | refine Kept.ext _ ?_)); (all_goals (first | omega | (simp; done) | (simp; omega))))).from_ (by omega)
end Go.Proofs.YthagkijplklemaaGreatDoor
end
