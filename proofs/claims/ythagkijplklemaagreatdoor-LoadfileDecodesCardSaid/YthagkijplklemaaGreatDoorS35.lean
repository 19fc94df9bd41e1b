/- The law's examples hold. -/
import Derived.Test.YthagkijplklemaaGreatDoorS26
import Derived.Test.YthagkijplklemaaGreatDoorS34
import Derived.Test.YthagkijplklemaaGreatDoorS17
section
namespace Go.Proofs.YthagkijplklemaaGreatDoor
open Go.ChangeShapes Go.WideShapes Go.ChangeAt Go.RowKit Go.Sc
def leastP : Pk := ⟨.er [1, 2, 3, 4, 5], 1, 0, .er [], .er [], .er [], .er [], .er []⟩
def leastB : List Int := [83, 67, 49, 5, 1, 2, 3, 4, 5, 1, 0, 0, 0, 0, 0, 0]
theorem check_least : checkE leastP = 0 := by decide +kernel
theorem pkB_least : pkB leastP = leastB := by decide +kernel
theorem dec_least : decodeP leastB = .ok leastP := by
  have h : pkP leastB = .ok (leastP, []) := by rfl
  unfold decodeP
  rw [if_neg (by decide), h]
  simp only
  rw [if_pos check_least]
theorem dec_short : decodeP [83, 67, 49] = .error 5 := by rfl
theorem dec_form : decodeP [83, 67, 50] = .error 4 := by rfl
def zeroCl : Cl := ⟨⟨0, 0⟩, false, .er [], .er [], .er [], .er []⟩
def wrongP : Pk := ⟨.er [1, 2, 3, 4, 5], 1, 0, .er [], .er [zeroCl], .er [], .er [], .er []⟩
theorem check_wrong : checkE wrongP = 21 := by decide +kernel
/-! Packages that agree but for where they lie. -/
theorem bEq_self (l : List Int) : bEq l l = true := by simp [bEq]
theorem eqF_self {α : Type} {f : α → α → Bool} (h : ∀ x, f x x = true) (l : List α) : eqF f l l = true := by
  induction l with
  | nil => rfl
  | cons x l ih => rw [eqF, h, ih]; rfl
theorem eqF_map {α β : Type} {f : β → β → Bool} {g : α → α → Bool} {m : α → β} (h : ∀ x y, f (m x) (m y) = g x y) : ∀ (l r : List α), eqF f (l.map m) (r.map m) = eqF g l r
  | [], [] => rfl
  | [], _ :: _ => rfl
  | _ :: _, [] => rfl
  | x :: l, y :: r => by rw [List.map_cons, List.map_cons, eqF, eqF, h, eqF_map h l r]
theorem imEq_er (x y : Im) : imEq (Im.er x) (Im.er y) = imEq x y := rfl
theorem clEq_er (x y : Cl) : clEq (Cl.er x) (Cl.er y) = clEq x y := by
  unfold clEq
  simp only [Cl.er]
  rw [eqF_map imEq_er]
theorem meEq_er (x y : Me) : meEq (Me.er x) (Me.er y) = meEq x y := rfl
theorem pkEq_er (x y : Pk) : pkEq (Pk.er x) (Pk.er y) = pkEq x y := by
  unfold pkEq
  simp only [Pk.er]
  rw [eqF_map (f := ipEq) (g := ipEq) (m := Ip.er) (fun _ _ => rfl), eqF_map (f := apEq) (g := apEq) (m := Ap.er) (fun _ _ => rfl), eqF_map clEq_er, eqF_map meEq_er]
  rfl
theorem rfEq_self (x : Rf) : rfEq x x = true := by simp [rfEq]
theorem imEq_self (x : Im) : imEq x x = true := by simp [imEq, rfEq_self, eqF_self]
theorem clEq_self (x : Cl) : clEq x x = true := by simp [clEq, rfEq_self, eqF_self imEq_self, eqF_self]
theorem meEq_self (x : Me) : meEq x x = true := by simp [meEq, tyEq, eqF_self]
theorem pkEq_self (x : Pk) : pkEq x x = true := by
  unfold pkEq
  rw [eqF_self fun x => by simp [ipEq, bEq_self], eqF_self fun x => by simp [apEq, bEq_self], bEq_self, eqF_self clEq_self, eqF_self meEq_self]
  simp [eqF_self]
theorem pkEq_of_er {x y : Pk} (h : Pk.er x = Pk.er y) : pkEq x y = true := by rw [← pkEq_er, h, pkEq_er, pkEq_self]
/-! The calls. -/
def LeastOut (w : World) (e : Ending) (w' : World) : Prop := ∃ (p : Pk) (x : Ext w), e = .returned p.v ∧ w' = x.val ∧ Hid (p.Ok x.val) ∧ Hid (Pk.er p = leastP)
theorem nil_ok {α : Type} (E : El α) (m : Nat) (w : World) : (⟨none, 0, []⟩ : Sl α).Ok E m w := ⟨by simp, by simp, fun _ => rfl, fun k x h => by simp at h⟩
theorem aid5 (w : World) (T : TypeId) (b : Nat) (hb : b = w.heap.size) : Bytes (w.alloc (.cells #[.int .u8 1, .int .u8 2, .int .u8 3, .int .u8 4, .int .u8 5] T)) ⟨some ⟨b, 0, none⟩, 5, [1, 2, 3, 4, 5]⟩ :=
  bytes_new w [1, 2, 3, 4, 5] T b hb (fun x hx => by simp at hx; unfold byt; omega) (by simp)
theorem least_any (w : World) : Calls Tryz.prog 23 #[] w (LeastOut w) := by
  go_enter Tryz.func23, Tryz.ntmps23
  go_wp2_with fail
  have hbel : Below w.heap.size w ((w.alloc (.cells #[.slice (some ⟨w.heap.size + 1, 0, none⟩) 5 5, .int .i64 1, .int .i64 0, .slice none 0 0, .slice none 0 0, .slice none 0 0, .slice none 0 0, .slice none 0 0] 29)).alloc (.cells #[.int .u8 1, .int .u8 2, .int .u8 3, .int .u8 4, .int .u8 5] 5)) := END
  go_returns
  exact ⟨⟨⟨some ⟨w.heap.size + 1, 0, none⟩, 5, [1, 2, 3, 4, 5]⟩, 1, 0, ⟨none, 0, []⟩, ⟨none, 0, []⟩, ⟨none, 0, []⟩, ⟨none, 0, []⟩, ⟨none, 0, []⟩⟩, ⟨_, hbel⟩, rfl, rfl, ⟨aid5 _ _ _ (by simp), by simp [i64ok], by simp [i64ok], nil_ok _ _ _, nil_ok _ _ _, nil_ok _ _ _, nil_ok _ _ _, nil_ok _ _ _⟩, rfl⟩
/-- A block that holds a package, whatever came behind. -/
theorem ex_encode (W : World) (p : Pk) (hp : p.Ok W) (he : Pk.er p = leastP) (hg : ObjAt W 0) : Calls Tryz.prog 14 #[p.v] W fun e w' =>
    ∃ (a : Option Addr) (c : Nat) (x : Ext W), e = .returned (.tuple #[.slice a 16 c, .int .i64 0]) ∧ w' = x.val ∧ Hid (Bytes x.val ⟨a, c, leastB⟩) := by
  have h0 : checkE p = 0 := by rw [← checkE_er, he, check_least]
  have h1 := encode_good p W hp hg h0
  rw [← pkB_er, he, pkB_least] at h1
  exact giv h1 16 rfl
theorem ex_decode (W : World) (a : Option Addr) (c : Nat) (hb : Bytes W ⟨a, c, leastB⟩) (hg : ObjAt W 0) : Calls Tryz.prog 17 #[.slice a 16 c] W fun e w' =>
    ∃ (p : Pk) (x : Ext W), e = .returned (.tuple #[p.v, .int .i64 0]) ∧ w' = x.val ∧ Hid (p.Ok x.val) ∧ Hid (Pk.er p = leastP) := by
  obtain ⟨b, o, rfl, hlt⟩ := addr_of hb (by show 0 < 16; omega)
  refine (ldecode_any ⟨some ⟨b, o, none⟩, c, leastB⟩ W hb (fun b' o' q h => by cases h; exact hlt) hg).mono ?_
  rintro e w' ⟨hbl, h1, _⟩
  obtain ⟨p, rfl, hp, he⟩ := h1 _ dec_least
  exact ⟨p, ⟨w', hbl⟩, rfl, rfl, hp, he⟩
theorem ex_bad (W : World) (b c : Nat) (x y z d : Int) (hb : Bytes W ⟨some ⟨b, 0, none⟩, c, [x, y, z]⟩) (hd : decodeP [x, y, z] = .error d) (hg : ObjAt W 0) : Calls Tryz.prog 17 #[.slice (some ⟨b, 0, none⟩) 3 c] W fun e w' =>
    ∃ (x : Ext W), e = .returned (.tuple #[zeroPk, .int .i64 d]) ∧ w' = x.val := by
  obtain ⟨b', o, h, hlt⟩ := addr_of hb (by show 0 < 3; omega)
  cases h
  refine (ldecode_any ⟨some ⟨b, 0, none⟩, c, [x, y, z]⟩ W hb (fun b' o' q h => by cases h; exact hlt) hg).mono ?_
  rintro e w' ⟨hbl, _, h2⟩
  exact ⟨⟨w', hbl⟩, (h2 _ hd).2, rfl⟩
theorem ex_hex (W : World) (a : Option Addr) (c : Nat) (hb : Bytes W ⟨a, c, leastB⟩) : Gives Tryz.prog 24 #[.slice a 16 c] W (.string { data := #[53, 51, 52, 51, 51, 49, 48, 53, 48, 49, 48, 50, 48, 51, 48, 52, 48, 53, 48, 49, 48, 48, 48, 48, 48, 48, 48, 48, 48, 48, 48, 48] }) :=
  hex_any a c leastB W hb (by decide)
theorem ex_same (W : World) (p q : Pk) (hp : p.Ok W) (hq : q.Ok W) (h1 : Pk.er p = leastP) (h2 : Pk.er q = leastP) : Gives Tryz.prog 20 #[p.v, q.v] W (.bool true) := by
  have h := same_any p q W hp hq
  rwa [pkEq_of_er (h1.trans h2.symm)] at h
theorem ex_hash (W : World) (a : Option Addr) (c : Nat) (hb : Bytes W ⟨a, c, leastB⟩) : Calls Tryz.prog 21 #[.slice a 16 c] W fun e w' => ∃ (a : Option Addr) (c : Nat) (x : Ext W), e = .returned (.slice a 16 c) ∧ w' = x.val := by
  refine (giv (lhash_any ⟨a, c, leastB⟩ W hb (by show 16 ≤ 900000; omega)) 16 (hashL_len _)).mono ?_
  rintro e w' ⟨a, c, x, he, hw, _⟩
  exact ⟨a, c, x, he, hw⟩
/-- The package of the last example: with one class. -/
abbrev wrongV (p : Pk) (b : Nat) : Pk := ⟨p.aid, p.major, p.minor, p.imports, ⟨some ⟨b, 0, none⟩, 1, [⟨⟨0, 0⟩, false, ⟨none, 0, []⟩, ⟨none, 0, []⟩, ⟨none, 0, []⟩, ⟨none, 0, []⟩⟩]⟩, p.methods, p.statics, p.applets⟩
theorem ex_check (W : World) (p : Pk) (b : Nat) (hp : p.Ok W) (he : Pk.er p = leastP) (hb : b < W.heap.size) (hc : ∀ j v, (#[Value.int .i64 0, .int .i64 0, .bool false, .slice none 0 0, .slice none 0 0, .slice none 0 0, .slice none 0 0] : Array Value)[j]? = some v → W.cell? ⟨b, j, none⟩ = some v) (hg : ObjAt W 0) :
    Gives Tryz.prog 12 #[.agg #[.slice p.aid.a p.aid.xs.length p.aid.c, .int .i64 p.major, .int .i64 p.minor, .slice p.imports.a p.imports.xs.length p.imports.c, .slice (some ⟨b, 0, none⟩) 1 1, .slice p.methods.a p.methods.xs.length p.methods.c, .slice p.statics.a p.statics.xs.length p.statics.c, .slice p.applets.a p.applets.xs.length p.applets.c]] W (.int .i64 21) := by
  have hok : (wrongV p b).Ok W := ⟨hp.aid, hp.major, hp.minor, hp.imports, ⟨by simp, by simp, (fun h => by cases h), fun k x hx => by
    match k, hx with
    | 0, hx =>
      simp at hx; subst hx
      exact ⟨⟨by simp [i64ok], by simp [i64ok], nil_ok _ _ _, nil_ok _ _ _, nil_ok _ _ _, nil_ok _ _ _⟩, b, 0, rfl, hb, fun j v hv => by
        have e : 0 + 0 * 7 + j = j := by omega
        rw [e]
        exact hc j v (by simpa [eCl] using hv)⟩⟩, hp.methods, hp.statics, hp.applets⟩
  have h := check_any (wrongV p b) W hok hg
  have e : Pk.er (wrongV p b) = wrongP := by
    have e1 := he
    simp only [Pk.er, leastP, Pk.mk.injEq] at e1
    simp only [Pk.er, wrongP, Pk.mk.injEq]
    exact ⟨e1.1, e1.2.1, e1.2.2.1, e1.2.2.2.1, rfl, e1.2.2.2.2.2.1, e1.2.2.2.2.2.2.1, e1.2.2.2.2.2.2.2⟩
  rwa [← checkE_er, e, check_wrong] at h
set_option maxRecDepth 100000 in
set_option maxHeartbeats 4000000 in
theorem example_any (w : World) (hg : Hid (ObjAt w 0)) : Gives Tryz.prog 11 #[] w (.bool true) := by
  unfold Gives
  go_enter Tryz.func11, Tryz.ntmps11
  go_wp2_with (first | (go_at_call 23; refine (least_any _).mono ?_; rintro e w' ⟨p1, x1, rfl, rfl, hp1, he1⟩) | (go_at_call 14; (with_reducible refine (ex_encode _ p1 ?_ he1.out ?_).mono ?_); (exact hp1.out.mono END); (exact hg.out.mono END); (rintro e w' ⟨ea, ec, x2, rfl, rfl, hb2⟩)) | (go_at_call 17; first | ((with_reducible refine (ex_decode _ ea ec ?_ ?_).mono ?_); (exact hb2.out.mono END); (exact hg.out.mono END); (rintro e w' ⟨p3, x3, rfl, rfl, hp3, he3⟩)) | ((with_reducible refine (ex_bad _ _ 3 83 67 49 5 ?_ dec_short ?_).mono ?_); (exact bytes_new _ [83, 67, 49] 5 _ (by simp) (fun x hx => by simp at hx; unfold byt; omega) (by simp)); (exact hg.out.mono END); (rintro e w' ⟨x4, rfl, rfl⟩)) | ((with_reducible refine (ex_bad _ _ 3 83 67 50 4 ?_ dec_form ?_).mono ?_); (exact bytes_new _ [83, 67, 50] 5 _ (by simp) (fun x hx => by simp at hx; unfold byt; omega) (by simp)); (exact hg.out.mono END); (rintro e w' ⟨x5, rfl, rfl⟩))) | fail)
  have hB1 : Hid (Below w.heap.size w x1.val) := hid END
  refine gen_world (fun V => Below x1.val.heap.size x1.val V ∧ x1.val.heap.size + 1 < V.heap.size ∧ (V.cell? ⟨x3.val.heap.size, 0, none⟩ = some (.slice p3.aid.a p3.aid.xs.length p3.aid.c) ∧ V.cell? ⟨x3.val.heap.size, 1, none⟩ = some (.int .i64 p3.major) ∧ V.cell? ⟨x3.val.heap.size, 2, none⟩ = some (.int .i64 p3.minor) ∧ V.cell? ⟨x3.val.heap.size, 3, none⟩ = some (.slice p3.imports.a p3.imports.xs.length p3.imports.c) ∧ V.cell? ⟨x3.val.heap.size, 4, none⟩ = some (.slice p3.classes.a p3.classes.xs.length p3.classes.c) ∧ V.cell? ⟨x3.val.heap.size, 5, none⟩ = some (.slice p3.methods.a p3.methods.xs.length p3.methods.c) ∧ V.cell? ⟨x3.val.heap.size, 6, none⟩ = some (.slice p3.statics.a p3.statics.xs.length p3.statics.c) ∧ V.cell? ⟨x3.val.heap.size, 7, none⟩ = some (.slice p3.applets.a p3.applets.xs.length p3.applets.c)) ∧
    (V.cell? ⟨x1.val.heap.size, 0, none⟩ = some (.slice p1.aid.a p1.aid.xs.length p1.aid.c) ∧ V.cell? ⟨x1.val.heap.size, 1, none⟩ = some (.int .i64 p1.major) ∧ V.cell? ⟨x1.val.heap.size, 2, none⟩ = some (.int .i64 p1.minor) ∧ V.cell? ⟨x1.val.heap.size, 3, none⟩ = some (.slice p1.imports.a p1.imports.xs.length p1.imports.c) ∧ V.cell? ⟨x1.val.heap.size, 4, none⟩ = some (.slice (some ⟨x1.val.heap.size + 1, 0, none⟩) 1 1) ∧ V.cell? ⟨x1.val.heap.size, 5, none⟩ = some (.slice p1.methods.a p1.methods.xs.length p1.methods.c) ∧ V.cell? ⟨x1.val.heap.size, 6, none⟩ = some (.slice p1.statics.a p1.statics.xs.length p1.statics.c) ∧ V.cell? ⟨x1.val.heap.size, 7, none⟩ = some (.slice p1.applets.a p1.applets.xs.length p1.applets.c)) ∧
    (∀ j v, (#[Value.int .i64 0, .int .i64 0, .bool false, .slice none 0 0, .slice none 0 0, .slice none 0 0, .slice none 0 0] : Array Value)[j]? = some v → V.cell? ⟨x1.val.heap.size + 1, j, none⟩ = some v)) ⟨END, by simp, by (refine ⟨?_, ?_, ?_, ?_, ?_, ?_, ?_, ?_⟩ <;> simp [Ext.cell, alloc_cell_in]), by simp, fun j v hj => cell_new_at _ _ _ _ _ _ (by simp) hj⟩ ?_
  have hxs : Hid (Below x3.val.heap.size x3.val x1.val) := hid END
  rintro V ⟨hV, hVs, ⟨c0, c1, c2, c3, c4, c5, c6, c7⟩, ⟨d0, d1, d2, d3, d4, d5, d6, d7⟩, hcl⟩
  have hA : x3.val.heap.size < V.heap.size := by have := hxs.out.size; omega
  have hp3' : Hid (p3.Ok V) := hid ((hp3.out.mono hxs.out).mono hV)
  have hb2' : Hid (Bytes V ⟨ea, ec, leastB⟩) := hid (((hb2.out.mono END).mono hxs.out).mono hV)
  have hp1' : Hid (p1.Ok V) := hid (hp1.out.mono hV)
  have hg' : Hid (ObjAt V 0) := hid ((hg.out.mono hB1.out).mono hV)
  have hwV : Hid (Below w.heap.size w V) := hid (hB1.out.trans (hV.mono hB1.out.size))
  have hcl' := hid hcl
  generalize x3.val.heap.size = A at *
  generalize x1.val.heap.size = B at *
  haveI : InW A V := ⟨hA⟩
  haveI : InW B V := ⟨by omega⟩
  haveI : InW (B + 1) V := ⟨hVs⟩
  clear hcl hV hxs hB1 hp3 hp1 hb2
  go_region_held3 (fun w' => (w'.cell? ⟨A, 0, none⟩ = some (.slice p3.aid.a p3.aid.xs.length p3.aid.c) ∧ w'.cell? ⟨A, 1, none⟩ = some (.int .i64 p3.major) ∧ w'.cell? ⟨A, 2, none⟩ = some (.int .i64 p3.minor) ∧ w'.cell? ⟨A, 3, none⟩ = some (.slice p3.imports.a p3.imports.xs.length p3.imports.c) ∧ w'.cell? ⟨A, 4, none⟩ = some (.slice p3.classes.a p3.classes.xs.length p3.classes.c) ∧ w'.cell? ⟨A, 5, none⟩ = some (.slice p3.methods.a p3.methods.xs.length p3.methods.c) ∧ w'.cell? ⟨A, 6, none⟩ = some (.slice p3.statics.a p3.statics.xs.length p3.statics.c) ∧ w'.cell? ⟨A, 7, none⟩ = some (.slice p3.applets.a p3.applets.xs.length p3.applets.c)) ∧
    (w'.cell? ⟨B, 0, none⟩ = some (.slice p1.aid.a p1.aid.xs.length p1.aid.c) ∧ w'.cell? ⟨B, 1, none⟩ = some (.int .i64 p1.major) ∧ w'.cell? ⟨B, 2, none⟩ = some (.int .i64 p1.minor) ∧ w'.cell? ⟨B, 3, none⟩ = some (.slice p1.imports.a p1.imports.xs.length p1.imports.c) ∧ w'.cell? ⟨B, 4, none⟩ = some (.slice (some ⟨B + 1, 0, none⟩) 1 1) ∧ w'.cell? ⟨B, 5, none⟩ = some (.slice p1.methods.a p1.methods.xs.length p1.methods.c) ∧ w'.cell? ⟨B, 6, none⟩ = some (.slice p1.statics.a p1.statics.xs.length p1.statics.c) ∧ w'.cell? ⟨B, 7, none⟩ = some (.slice p1.applets.a p1.applets.xs.length p1.applets.c)))
    (first | (go_keep) | exact ⟨⟨c0, c1, c2, c3, c4, c5, c6, c7⟩, ⟨d0, d1, d2, d3, d4, d5, d6, d7⟩⟩ | (refine ⟨⟨?_, ?_, ?_, ?_, ?_, ?_, ?_, ?_⟩, ⟨?_, ?_, ?_, ?_, ?_, ?_, ?_, ?_⟩⟩ <;> simp [Ext.cell, c0, c1, c2, c3, c4, c5, c6, c7, d0, d1, d2, d3, d4, d5, d6, d7]))
    (first | (go_at_call 24; (with_reducible refine (ex_hex _ ea ec ?_).go.mono ?_); (exact hb2'.out.mono END); (rintro e w' ⟨rfl, y1, rfl⟩)) | (go_at_call 23; (refine (least_any _).mono ?_); (rintro e w' ⟨q, y2, rfl, rfl, hq, heq⟩)) | (go_at_call 20; (with_reducible refine (ex_same _ p3 q ?_ ?_ he3.out heq.out).go.mono ?_); (exact hp3'.out.mono END); (exact hq.out.mono END); (rintro e w' ⟨rfl, y3, rfl⟩)) | (go_at_call 12; (with_reducible refine (ex_check _ p1 (B + 1) ?_ he1.out ?_ ?_ ?_).go.mono ?_); (exact hp1'.out.mono END); (exact InW.lt); (exact fun j v hj => (Ext.cell _ _ _).trans ((Ext.cell _ _ _).trans ((Ext.cell _ _ _).trans (hcl'.out j v hj)))); (exact hg'.out.mono END); (rintro e w' ⟨rfl, y4, rfl⟩)) | (go_at_call 21; (with_reducible refine (ex_hash _ ea ec ?_).mono ?_); (exact hb2'.out.mono END); (rintro e w' ⟨ha, hc, y5, rfl, rfl⟩)))
  go_wp2_with fail
  go_ret
  exact ⟨rfl, hwV.out.trans (Below.mono (show Below V.heap.size V _ from END) hwV.out.size)⟩
end Go.Proofs.YthagkijplklemaaGreatDoor
end
