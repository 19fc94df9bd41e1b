/- A kit for laws that return true: the row's frame from one walk; regions that draw their order, walked once over all worlds that differ only in new blocks; contracts of functions that make memory at most. No program in sight. -/
import Derived.WalkKit
import Derived.ProofKit
import Derived.OpenShut
import Derived.ChangeOld
import Derived.Carry
import Derived.BigQuiet
import Derived.Handy
import Derived.Laws.EntriesVeiled
import Derived.WalkLawsBesides
namespace Go.Sc
open Go.ChangeShapes Go.WideShapes Go.ChangeAt Go.RowKit

/-! ### Worlds that differ in new blocks alone -/
/-- The worlds that differ from W at most in blocks that W does not have. -/
structure Ext (W : World) where
  val : World
  below : Below W.heap.size W val

instance {W : World} : Nonempty (Ext W) := ⟨⟨W, Below.refl _ _⟩⟩
theorem Ext.size {W : World} (x : Ext W) : W.heap.size ≤ x.val.heap.size := x.below.size
/-- Block b lies in the world W: found by instances, however deep the chain of worlds is. -/
class InW (b : Nat) (W : World) : Prop where
  lt : b < W.heap.size
instance InW.ext {b : Nat} {W : World} [h : InW b W] (x : Ext W) : InW b x.val := ⟨Nat.lt_of_lt_of_le h.lt x.size⟩
instance InW.alloc {b : Nat} {W : World} [h : InW b W] (o : Obj) : InW b (W.alloc o) := ⟨by have := h.lt; simp; omega⟩
instance InW.new0 {W : World} (o : Obj) : InW W.heap.size (W.alloc o) := ⟨by simp⟩
instance InW.new1 {W : World} (o o1 : Obj) : InW (W.heap.size + 1) ((W.alloc o).alloc o1) := ⟨by simp⟩
instance InW.new2 {W : World} (o o1 o2 : Obj) : InW (W.heap.size + 2) (((W.alloc o).alloc o1).alloc o2) := ⟨by simp⟩
instance InW.new3 {W : World} (o o1 o2 o3 : Obj) : InW (W.heap.size + 3) ((((W.alloc o).alloc o1).alloc o2).alloc o3) := ⟨by simp⟩
instance InW.new4 {W : World} (o o1 o2 o3 o4 : Obj) : InW (W.heap.size + 4) (((((W.alloc o).alloc o1).alloc o2).alloc o3).alloc o4) := ⟨by simp⟩
instance InW.drew {b : Nat} {W : World} [h : InW b W] : InW b W.drew := ⟨h.lt⟩
instance InW.setCell {b : Nat} {W : World} [h : InW b W] (a : Addr) (v : Value) : InW b (W.setCell a v) := ⟨by have := h.lt; simpa [World.setCell] using this⟩
@[go_sem] theorem Ext.cell {W : World} (x : Ext W) (b o : Nat) [h : InW b W] : x.val.cell? ⟨b, o, none⟩ = W.cell? ⟨b, o, none⟩ := x.below.cell (p := ⟨b, o, none⟩) h.lt
@[go_sem] theorem Ext.frozen {W : World} (x : Ext W) (b o : Nat) [h : InW b W] : x.val.frozen? ⟨b, o, none⟩ = W.frozen? ⟨b, o, none⟩ := x.below.frozen (p := ⟨b, o, none⟩) h.lt
@[go_sem] theorem alloc_cell_in {W : World} (ob : Obj) (b o : Nat) [h : InW b W] : (W.alloc ob).cell? ⟨b, o, none⟩ = W.cell? ⟨b, o, none⟩ := World.cell?_alloc_lt W ob ⟨b, o, none⟩ h.lt
@[go_sem] theorem alloc_frozen_in {W : World} (ob : Obj) (b o : Nat) [h : InW b W] : (W.alloc ob).frozen? ⟨b, o, none⟩ = W.frozen? ⟨b, o, none⟩ := World.frozen?_alloc_old W ob ⟨b, o, none⟩ (by have := h.lt; simp; omega)
theorem Ext.le_size {W : World} (x : Ext W) {b : Nat} (h : b ≤ W.heap.size) : b ≤ x.val.heap.size := Nat.le_trans h x.size
theorem le_alloc {W : World} {o : Obj} {b : Nat} (h : b ≤ W.heap.size) : b ≤ (W.alloc o).heap.size := by simp; omega
theorem le_drew {W : World} {b : Nat} (h : b ≤ W.heap.size) : b ≤ W.drew.heap.size := h
theorem le_setCell {W : World} {a : Addr} {v : Value} {b : Nat} (h : b ≤ W.heap.size) : b ≤ (W.setCell a v).heap.size := by simpa [World.setCell] using h
theorem below_ext {B : Nat} {a W : World} (x : Ext W) (hB : B ≤ W.heap.size) (h : Below B a W) : Below B a x.val := h.trans (x.below.mono hB)

/-- A region that draws its order, every operation of which yields one value in all worlds that differ in new blocks alone. -/
theorem wp_region_ext {P : Program} {id : Nat} {Q : Exit → Act → World → Prop} {a : Act} {w : World} {l : List Oper} (hm : P.follows .mixedOrders = true) (hB : Region.lexB .any l.toArray = true)
    (h : wpQuiet P l.toArray (fun w' => ∃ x : Ext w, w' = x.val) (fun a' => ∀ x : Ext w, Q .normal a' x.val) l a) : (Code.region id l.toArray true).wp P Q a w := by
  refine wp_region_quiet (C := fun w' => ∃ x : Ext w, w' = x.val) hm hB ⟨⟨w.drew, (Below.refl _ _).drew⟩, rfl⟩ ?_
  have e : (fun a' => ∀ w', (∃ x : Ext w, w' = x.val) → Q .normal a' w') = (fun a' => ∀ x : Ext w, Q .normal a' x.val) := by
    funext a'; apply propext; constructor
    · intro h x; exact h _ ⟨x, rfl⟩
    · rintro h w' ⟨x, rfl⟩; exact h x
  rw [e]; simpa using h

/-- The call returns v, and nothing that was there has turned. -/
def Gives (P : Program) (f : FuncId) (args : Array Value) (w : World) (v : Value) : Prop :=
  Calls P f args w fun e w' => e = .returned v ∧ Below w.heap.size w w'
/-- .. as a walk takes it. -/
theorem Gives.go {P : Program} {f : FuncId} {args : Array Value} {w : World} {v : Value} (h : Gives P f args w v) : Calls P f args w fun e w' => e = .returned v ∧ ∃ x : Ext w, w' = x.val :=
  h.mono fun _ w' ⟨he, hb⟩ => ⟨he, ⟨w', hb⟩, rfl⟩
/-- .. as a step of a drawn region takes it. -/
theorem Gives.at {P : Program} {f : FuncId} {args : Array Value} {W : World} {x : Ext W} {v : Value} (h : Gives P f args x.val v) : Calls P f args x.val fun e w' => e = .returned v ∧ ∃ y : Ext W, w' = y.val :=
  h.mono fun _ _ ⟨he, hb⟩ => ⟨he, ⟨_, x.below.trans (hb.mono x.size)⟩, rfl⟩
theorem gives_of_same {P : Program} {f : FuncId} {args : Array Value} {w : World} {v : Value} (h : Calls P f args w fun e w' => e = .returned v ∧ w = w') : Gives P f args w v :=
  h.mono fun _ _ ⟨he, hw⟩ => ⟨he, hw ▸ Below.refl _ _⟩
theorem gives_eq {P : Program} {f : FuncId} {args : Array Value} {w : World} {v u : Value} (h : Gives P f args w v) (e : v = u) : Gives P f args w u := e ▸ h

theorem ret_bool {a b : Bool} (h : a = b) : Ending.returned (.bool a) = .returned (.bool b) := by rw [h]
theorem ret_int {k : IntKind} {a b : Int} (h : a = b) : Ending.returned (.int k a) = .returned (.int k b) := by rw [h]
theorem ret_val {a b : Value} (h : a = b) : Ending.returned a = .returned b := by rw [h]

/-! ### The frame of a law -/
section
variable {H : Type} {enc : TypeId × Value → H} {P : Program}
theorem trodAll_below {W W' : World} (hl : laidOutB P = true) (hb : Below W.heap.size W W') : ∀ {ts : List TypeId} {vs : List Value} {ds : List (DataW H)} {ps : List MemPlace},
    (ts.all fun t => P.readableRec t && decide (t < P.types.size)) = true → DataW.TrodAll enc P W 0 (fun _ => true) true ts vs ds ps →
    DataW.TrodAll enc P W' 0 (fun b => decide (b < W.heap.size)) true ts vs ds ps
  | [], [], [], ps, _, h => h
  | t :: ts, v :: vs, d :: ds, ps, hr, h => by
    obtain ⟨p, q, h1, h2, rfl⟩ := h
    simp only [List.all_cons, Bool.and_eq_true, decide_eq_true_eq] at hr
    obtain ⟨m, hm⟩ := h1
    exact ⟨p, q, Below.trod hl hr.1.1 hr.1.2 ⟨m, hm⟩ hb (fun x hx => DataW.trod_lt m _ _ _ hm x hx), trodAll_below hl hb hr.2 h2, rfl⟩
theorem trodAll_len {W : World} {base : Nat} {sp : Nat → Bool} {held : Bool} : ∀ {ts : List TypeId} {vs : List Value} {ds : List (DataW H)} {ps : List MemPlace}, DataW.TrodAll enc P W base sp held ts vs ds ps → ds.length = ts.length
  | [], [], [], _, _ => rfl
  | t :: ts, v :: vs, d :: ds, ps, h => by obtain ⟨p, q, _, h2, _⟩ := h; simp [trodAll_len h2]

/-- THE FRAME OF A LAW: a function that returns true and turns nothing that was there. -/
theorem law_returns {C : Checked} {os : Os} {f : FuncId} {fn : Func} {s : ChangeSpec} {tb : TypeId}
    (own : ownKnob C.prog.godebug = none) (started : os.Started) (noInit : C.prog.inits.idxOf? f = none) (hfn : C.prog.funcs[f]? = some fn)
    (witness : ∃ (w : World) (tape : Tape) (i : Input), w.os = os ∧ (w.forCall tape i).Shaped C.prog ∧ i.vars = [] ∧ Input.okWide C.prog (w.forCall tape i) .any w.heap.size f i ∧
      s.pre6 enc C.prog fn [] false (w.forCall tape i).memory i.args ∧ Assume.holds {} C.prog (lone (Frame.enter C.prog f i.args .normal) [] (w.forCall tape i)))
    (hres : fn.resultTypes = #[tb]) (htb : C.prog.underlying tb = some .bool) (hvars : s.vars = []) (laid : laidOutB C.prog = true)
    (readable : (fn.params.toList.all fun t => C.prog.readableRec t && decide (t < C.prog.types.size)) = true)
    (hspec : ∀ ds : List (DataW H), ds.length = fn.params.toList.length → s.fn H ds = { results := [.lit (.bool true)], args := ds })
    (walk : ∀ (W : World) (base : Nat) (args : Array Value) (ds : List (DataW H)) (ps : List MemPlace),
      (∀ (j : Nat) t v, fn.params[j]? = some t → args[j]? = some v → Value.okWide C.prog W .any base t v) →
      DataW.TrodAll enc C.prog W 0 (fun _ => true) true fn.params.toList args.toList ds ps → Gives C.prog f args W (.bool true)) :
    ReturnsInHanded {} C os f .any (s.pre6 enc C.prog fn [] false) (s.post enc C.prog fn false true false false) := by
  refine returnsInHanded_of_change own started noInit hfn witness ?_
  intro W base args ds gs before hval hW hcnd _
  have hW' := hW
  obtain ⟨p, q, hA, hV, rfl, hfz, hnd⟩ := hW
  rw [hvars] at hV
  have hgs : gs = [] ∧ q = [] := by
    cases gs with
    | nil => exact ⟨rfl, hV⟩
    | cons g gs => exact hV.elim
  obtain ⟨rfl, rfl⟩ := hgs
  refine Calls.mono (walk W base args ds p hval hA) fun e W' ⟨he, hb⟩ => ?_
  have hs := hspec (ds ++ []) (by simpa using trodAll_len hA)
  refine ⟨_, he, ds, [], p ++ [], [], p, [], hW', ?_, ?_, ?_, ?_, fun h => by cases h⟩
  · rw [hs, hres]; exact trodAll_mk1 (shut_bool htb _)
  · rw [hs]; simp only [List.append_nil]; exact trodAll_below laid hb readable hA
  · rw [hvars]
    have : (s.fn H (ds ++ [])).vars = [] := by rw [hs]
    rw [this]; exact rfl
  · exact hb.frame _
end
#print axioms law_returns
end Go.Sc
