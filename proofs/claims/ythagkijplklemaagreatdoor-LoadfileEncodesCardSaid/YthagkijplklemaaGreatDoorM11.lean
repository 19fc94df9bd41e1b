/- Check of the program: the five steps of a package's lists. What reading a package's bytes comes to: instructions, methods, the whole. -/
import Derived.Test.YthagkijplklemaaGreatDoorM10
import Derived.Test.YthagkijplklemaaGreatDoorM01
import Derived.Test.YthagkijplklemaaGreatDoorM07
section
namespace Go.Proofs.YthagkijplklemaaGreatDoor
open Go.ChangeShapes Go.WideShapes Go.ChangeAt Go.RowKit Go.Sc
theorem applets1_any (p : Pk) (k : Nat) (x : Ap) (cb : Nat) (w : World) (hp : Hid (p.Ok w)) (hx : Hid (x.Ok w)) (hc : Hid (PkAt w cb p)) (hg : Hid (ObjAt w 0)) (hk : k < p.applets.xs.length) :
    Gives Tryz.prog 108 #[.int .i64 k, x.v, .pointer (some ⟨cb, 0, none⟩)] w (.int .i64 (appE p k x)) := by
  cases hb1 : below x.cls p.classes.xs.length with
  | false => exact applets1_bad p k x cb w hp hx hc hk (.inl hb1)
  | true =>
    cases hb2 : below x.inst p.methods.xs.length with
    | false => exact applets1_bad p k x cb w hp hx hc hk (.inr hb2)
    | true =>
      simp only [below, Bool.and_eq_true, decide_eq_true_eq] at hb1 hb2
      obtain ⟨j, hj⟩ : ∃ j : Nat, x.cls = (j : Int) := ⟨x.cls.toNat, by omega⟩
      obtain ⟨l, hl⟩ : ∃ j : Nat, x.inst = (j : Int) := ⟨x.inst.toNat, by omega⟩
      obtain ⟨c, hcc⟩ := getElem?_of_lt (xs := p.classes.xs) (k := j) (by omega)
      obtain ⟨m, hm⟩ := getElem?_of_lt (xs := p.methods.xs) (k := l) (by omega)
      cases hI : c.isI with
      | true =>
        cases hS : m.static with
        | true => exact applets1_good p k x cb w hp hx hc hg hk j l c m hj hl hcc hm hI hS
        | false => exact applets1_good p k x cb w hp hx hc hg hk j l c m hj hl hcc hm hI hS
      | false =>
        cases hS : m.static with
        | true => exact applets1_good p k x cb w hp hx hc hg hk j l c m hj hl hcc hm hI hS
        | false => exact applets1_good p k x cb w hp hx hc hg hk j l c m hj hl hcc hm hI hS
theorem pk_new (w : World) (p : Pk) (t : TypeId) : PkAt (w.alloc (.cells (pkCells p p.classes.a) t)) w.heap.size p := PkAt.new w p t
theorem imp_first (p : Pk) (cb : Nat) : Hid (∀ W : World, p.Ok W → PkAt W cb p → Gives Tryz.prog 98 #[p.imports.v, .func (.func 99) #[] #[.pointer (some ⟨cb, 0, none⟩)]] W (.int .i64 (firstE (fun k x => impE p k x) 0 p.imports.xs))) :=
  fun W h0 h1 => first_imp p.imports (fun k x => impE p k x) _ W h0.imports (fun k x W' hb hx => imports1_any p k x _ W' (h0.mono hb) ((h0.imports.mono hb).at_ k x hx).1 (h1.mono hb) (List.getElem?_eq_some_iff.1 hx).1)
theorem cls_first (p : Pk) : Hid (∀ W : World, p.Ok W → ObjAt W 0 → Gives Tryz.prog 102 #[p.classes.v, .func (.func 103) #[p.v] #[]] W (.int .i64 (firstE (fun k x => clsE p k x) 0 p.classes.xs))) :=
  fun W h0 h1 => first_cls p.classes (fun k x => clsE p k x) _ W h0.classes (fun k x W' hb hx => class_any p k x W' (h0.mono hb) ((h0.classes.mono hb).at_ k x hx).1 (h1.mono hb))
theorem met_first (p : Pk) : Hid (∀ W : World, p.Ok W → Gives Tryz.prog 104 #[p.methods.v, .func (.func 105) #[p.v] #[]] W (.int .i64 (firstE (fun _ x => metE p x) 0 p.methods.xs))) :=
  fun W h0 => first_met p.methods (fun _ x => metE p x) _ W h0.methods (fun k x W' hb hx => method_any p x k W' (h0.mono hb) ((h0.methods.mono hb).at_ k x hx).1)
theorem app_first (p : Pk) (cb : Nat) : Hid (∀ W : World, p.Ok W → PkAt W cb p → ObjAt W 0 → Gives Tryz.prog 107 #[p.applets.v, .func (.func 108) #[] #[.pointer (some ⟨cb, 0, none⟩)]] W (.int .i64 (firstE (fun k x => appE p k x) 0 p.applets.xs))) :=
  fun W h0 h1 h2 => first_app p.applets (fun k x => appE p k x) _ W h0.applets (fun k x W' hb hx => applets1_any p k x _ W' (h0.mono hb) ((h0.applets.mono hb).at_ k x hx).1 (h1.mono hb) (h2.mono hb) (List.getElem?_eq_some_iff.1 hx).1)
theorem imports_any (p : Pk) (w : World) (hp : Hid (p.Ok w)) : Gives Tryz.prog 56 #[p.v] w (.int .i64 (firstE (fun k x => impE p k x) 0 p.imports.xs)) := by
  have hi := imp_first p w.heap.size
  have hn := hid (pk_new w p 67)
  unfold Gives
  go_enter Tryz.func56, Tryz.ntmps56
  go_wp2_with ((go_at_call 98; refine (hi.out _ (hp.out.mono (by with_reducible repeat' (first | exact Below.refl _ _ | exact Nat.le_refl _ | refine Below.alloc ?_ ?_ _ | refine below_ext _ ?_ ?_ | refine Below.drew ?_ | refine Below.setCell ?_ ?_ _ | refine le_alloc ?_ | refine Ext.le_size _ ?_ | refine le_drew ?_ | refine le_setCell ?_))) (hn.out.mono (by with_reducible repeat' (first | exact Below.refl _ _ | exact Nat.le_refl _ | refine Below.alloc ?_ ?_ _ | refine below_ext _ ?_ ?_ | refine Below.drew ?_ | refine Below.setCell ?_ ?_ _ | refine le_alloc ?_ | refine Ext.le_size _ ?_ | refine le_drew ?_ | refine le_setCell ?_)))).go.mono ?_; rintro e w' ⟨rfl, xw, rfl⟩))
  go_ret
  exact ⟨rfl, (by with_reducible repeat' (first | exact Below.refl _ _ | exact Nat.le_refl _ | refine Below.alloc ?_ ?_ _ | refine below_ext _ ?_ ?_ | refine Below.drew ?_ | refine Below.setCell ?_ ?_ _ | refine le_alloc ?_ | refine Ext.le_size _ ?_ | refine le_drew ?_ | refine le_setCell ?_))⟩
theorem classes_any (p : Pk) (w : World) (hp : Hid (p.Ok w)) (hg : Hid (ObjAt w 0)) : Gives Tryz.prog 57 #[p.v] w (.int .i64 (firstE (fun k x => clsE p k x) 0 p.classes.xs)) := by
  have hi := cls_first p
  unfold Gives
  go_enter Tryz.func57, Tryz.ntmps57
  go_wp2_with ((go_at_call 102; refine (hi.out _ (hp.out.mono (by with_reducible repeat' (first | exact Below.refl _ _ | exact Nat.le_refl _ | refine Below.alloc ?_ ?_ _ | refine below_ext _ ?_ ?_ | refine Below.drew ?_ | refine Below.setCell ?_ ?_ _ | refine le_alloc ?_ | refine Ext.le_size _ ?_ | refine le_drew ?_ | refine le_setCell ?_))) (hg.out.mono (by with_reducible repeat' (first | exact Below.refl _ _ | exact Nat.le_refl _ | refine Below.alloc ?_ ?_ _ | refine below_ext _ ?_ ?_ | refine Below.drew ?_ | refine Below.setCell ?_ ?_ _ | refine le_alloc ?_ | refine Ext.le_size _ ?_ | refine le_drew ?_ | refine le_setCell ?_)))).go.mono ?_; rintro e w' ⟨rfl, xw, rfl⟩))
  go_ret
  exact ⟨rfl, (by with_reducible repeat' (first | exact Below.refl _ _ | exact Nat.le_refl _ | refine Below.alloc ?_ ?_ _ | refine below_ext _ ?_ ?_ | refine Below.drew ?_ | refine Below.setCell ?_ ?_ _ | refine le_alloc ?_ | refine Ext.le_size _ ?_ | refine le_drew ?_ | refine le_setCell ?_))⟩
theorem methods_any (p : Pk) (w : World) (hp : Hid (p.Ok w)) : Gives Tryz.prog 58 #[p.v] w (.int .i64 (firstE (fun _ x => metE p x) 0 p.methods.xs)) := by
  have hi := met_first p
  unfold Gives
  go_enter Tryz.func58, Tryz.ntmps58
  go_wp2_with ((go_at_call 104; refine (hi.out _ (hp.out.mono (by with_reducible repeat' (first | exact Below.refl _ _ | exact Nat.le_refl _ | refine Below.alloc ?_ ?_ _ | refine below_ext _ ?_ ?_ | refine Below.drew ?_ | refine Below.setCell ?_ ?_ _ | refine le_alloc ?_ | refine Ext.le_size _ ?_ | refine le_drew ?_ | refine le_setCell ?_)))).go.mono ?_; rintro e w' ⟨rfl, xw, rfl⟩))
  go_ret
  exact ⟨rfl, (by with_reducible repeat' (first | exact Below.refl _ _ | exact Nat.le_refl _ | refine Below.alloc ?_ ?_ _ | refine below_ext _ ?_ ?_ | refine Below.drew ?_ | refine Below.setCell ?_ ?_ _ | refine le_alloc ?_ | refine Ext.le_size _ ?_ | refine le_drew ?_ | refine le_setCell ?_))⟩
theorem statics_any (p : Pk) (w : World) (hp : Hid (p.Ok w)) : Gives Tryz.prog 59 #[p.v] w (.int .i64 (if allUsable p p.statics.xs = true then 0 else 22)) := by
  unfold Gives
  go_enter Tryz.func59, Tryz.ntmps59
  go_wp2_with ((go_at_call 106; refine (allUsable_any p p.statics _ (hp.out.statics.mono (by with_reducible repeat' (first | exact Below.refl _ _ | exact Nat.le_refl _ | refine Below.alloc ?_ ?_ _ | refine below_ext _ ?_ ?_ | refine Below.drew ?_ | refine Below.setCell ?_ ?_ _ | refine le_alloc ?_ | refine Ext.le_size _ ?_ | refine le_drew ?_ | refine le_setCell ?_)))).go.mono ?_; rintro e w' ⟨rfl, xw, rfl⟩))
  all_goals
    go_ret
    exact ⟨ret_int (by grind), (by with_reducible repeat' (first | exact Below.refl _ _ | exact Nat.le_refl _ | refine Below.alloc ?_ ?_ _ | refine below_ext _ ?_ ?_ | refine Below.drew ?_ | refine Below.setCell ?_ ?_ _ | refine le_alloc ?_ | refine Ext.le_size _ ?_ | refine le_drew ?_ | refine le_setCell ?_))⟩
theorem applets_any (p : Pk) (w : World) (hp : Hid (p.Ok w)) (hg : Hid (ObjAt w 0)) : Gives Tryz.prog 60 #[p.v] w (.int .i64 (firstE (fun k x => appE p k x) 0 p.applets.xs)) := by
  have hi := app_first p w.heap.size
  have hn := hid (pk_new w p 67)
  unfold Gives
  go_enter Tryz.func60, Tryz.ntmps60
  go_wp2_with ((go_at_call 107; refine (hi.out _ (hp.out.mono (by with_reducible repeat' (first | exact Below.refl _ _ | exact Nat.le_refl _ | refine Below.alloc ?_ ?_ _ | refine below_ext _ ?_ ?_ | refine Below.drew ?_ | refine Below.setCell ?_ ?_ _ | refine le_alloc ?_ | refine Ext.le_size _ ?_ | refine le_drew ?_ | refine le_setCell ?_))) (hn.out.mono (by with_reducible repeat' (first | exact Below.refl _ _ | exact Nat.le_refl _ | refine Below.alloc ?_ ?_ _ | refine below_ext _ ?_ ?_ | refine Below.drew ?_ | refine Below.setCell ?_ ?_ _ | refine le_alloc ?_ | refine Ext.le_size _ ?_ | refine le_drew ?_ | refine le_setCell ?_))) (hg.out.mono (by with_reducible repeat' (first | exact Below.refl _ _ | exact Nat.le_refl _ | refine Below.alloc ?_ ?_ _ | refine below_ext _ ?_ ?_ | refine Below.drew ?_ | refine Below.setCell ?_ ?_ _ | refine le_alloc ?_ | refine Ext.le_size _ ?_ | refine le_drew ?_ | refine le_setCell ?_)))).go.mono ?_; rintro e w' ⟨rfl, xw, rfl⟩))
  go_ret
  exact ⟨rfl, (by with_reducible repeat' (first | exact Below.refl _ _ | exact Nat.le_refl _ | refine Below.alloc ?_ ?_ _ | refine below_ext _ ?_ ?_ | refine Below.drew ?_ | refine Below.setCell ?_ ?_ _ | refine le_alloc ?_ | refine Ext.le_size _ ?_ | refine le_drew ?_ | refine le_setCell ?_))⟩
end Go.Proofs.YthagkijplklemaaGreatDoor
end

section
namespace Go.Proofs.YthagkijplklemaaGreatDoor
open Go.RowKit Go.Sc
/-- A number of n bits in two's complement. -/
def sgn (m x : Int) : Int := if m ≤ 2 * x then x - m else x
def opP (f : Int) : Rr Int := fun b =>
  if f = 0 then .ok (0, b)
  else if f = 1 then (match b with | x :: y :: z :: u :: r => .ok (sgn 4294967296 (x * 16777216 + y * 65536 + z * 256 + u), r) | _ => .error 5)
  else match b with | x :: r => .ok (if f = 3 then sgn 256 x else x, r) | [] => .error 5
def insP : Rr In := numP.bind fun o => if 54 ≤ o then Rr.fail 4 else (opP (frm o).1).bind fun a => (opP (frm o).2.1).bind fun b => (opP (frm o).2.2).bind fun c => if insE ⟨o, a, b, c⟩ = 0 then Rr.pure ⟨o, a, b, c⟩ else Rr.fail (insE ⟨o, a, b, c⟩)
def decP : Nat → Nat → List Int → Except Int (List In)
  | 0, _, _ => .ok []
  | m + 1, n, b => if b = [] then .ok [] else if n = 256 then .error 3 else match insP b with
    | .ok (i, r) => (match decP m (n + 1) r with | .ok l => .ok (i :: l) | .error e => .error e)
    | .error e => .error e
def codeP : Rr (List In) := wideP.bind fun n => (bytesP n.toNat).bind fun b r => match decP (b.length + 1) 0 b with | .ok l => .ok (l, r) | .error e => .error e
def meP : Rr Me := numP.bind fun n => if 3 < n then Rr.fail 4 else numP.bind fun c => (listP typP).bind fun ps => typP.bind fun t => numP.bind fun l => numP.bind fun s => codeP.bind fun k => (listP hdP).bind fun h =>
  Rr.pure ⟨n % 2 == 1, decide (2 ≤ n), c, .er ps, t, l, s, .er k, .er h⟩
def magicP : Rr Unit := numP.bind fun x => if x = 83 then numP.bind fun y => if y = 67 then numP.bind fun z => if z = 49 then Rr.pure () else Rr.fail 4 else Rr.fail 4 else Rr.fail 4
def endP : Rr Unit := fun b => if b = [] then .ok ((), b) else .error 4
def pkP : Rr Pk := magicP.bind fun _ => aidP.bind fun a => numP.bind fun x => numP.bind fun y => (listP ipP).bind fun i => (listP clP).bind fun c => (listP meP).bind fun m => (listP typP).bind fun s => (listP apP).bind fun p =>
  endP.bind fun _ => Rr.pure ⟨.er a, x, y, .er i, .er c, .er m, .er s, .er p⟩
end Go.Proofs.YthagkijplklemaaGreatDoor
end
