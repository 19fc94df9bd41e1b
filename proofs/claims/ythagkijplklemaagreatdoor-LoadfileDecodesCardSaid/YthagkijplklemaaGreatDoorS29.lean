/- Plain: what Check says of a package does not depend on where its parts lie; a reader's errors are errors. No program in sight. -/
import Derived.Test.YthagkijplklemaaGreatDoorS15
import Derived.Test.YthagkijplklemaaGreatDoorS09
import Derived.Test.YthagkijplklemaaGreatDoorS28
section
namespace Go.Proofs.YthagkijplklemaaGreatDoor
open Go.RowKit Go.Sc
theorem firstE_map {α β : Type} {F : Nat → β → Int} {f : α → β} : ∀ {xs : List α} {n : Nat}, firstE F n (xs.map f) = firstE (fun k x => F k (f x)) n xs
  | [], _ => rfl
  | x :: r, n => by rw [List.map_cons, firstE, firstE, firstE_map]
theorem firstE_same {α : Type} {F G : Nat → α → Int} (h : ∀ k x, F k x = G k x) (n : Nat) (xs : List α) : firstE F n xs = firstE G n xs := by
  have : F = G := by funext k x; exact h k x
  rw [this]
theorem impE_er (p : Pk) (k : Nat) (x : Ip) : impE (Pk.er p) k (Ip.er x) = impE p k x := by
  unfold impE
  simp only [Pk.er, Ip.er, ← List.map_take, List.any_map]
  rfl
theorem belowE_er (p : Pk) (r : Rf) (n : Int) : belowE (Pk.er p).imports.xs.length (Pk.er p).classes.xs.length r n = belowE p.imports.xs.length p.classes.xs.length r n := by
  simp [Pk.er]
theorem allUsable_er (p : Pk) (l : List Ty) : allUsable (Pk.er p) l = allUsable p l := by simp [allUsable, Pk.er]
theorem virtE_er (p : Pk) (n : Int) (x : Cl) (i : Nat) (m : Int) : virtE (Pk.er p) n (Cl.er x) i m = virtE p n x i m := by
  unfold virtE
  simp only [Pk.er, Cl.er, List.length_map, List.getElem?_map]
  cases p.methods.xs[m.toNat]? <;> rfl
theorem implE_er (p : Pk) (x : Cl) (k : Nat) (y : Im) : implE (Pk.er p) (Cl.er x) k (Im.er y) = implE p x k y := by
  unfold implE
  simp only [Pk.er, Cl.er, Im.er, List.length_map, ← List.map_take, List.any_map]
  rfl
theorem clsE_er (p : Pk) (k : Int) (x : Cl) : clsE (Pk.er p) k (Cl.er x) = clsE p k x := by
  have h1 : firstE (fun i m => virtE (Pk.er p) k (Cl.er x) i m) 0 (Cl.er x).virt.xs = firstE (fun i m => virtE p k x i m) 0 x.virt.xs := firstE_same (fun i m => virtE_er p k x i m) 0 x.virt.xs
  have h2 : firstE (implE (Pk.er p) (Cl.er x)) 0 (Cl.er x).impls.xs = firstE (implE p x) 0 x.impls.xs := by
    show firstE _ 0 (x.impls.xs.map Im.er) = _
    rw [firstE_map]
    exact firstE_same (fun i m => implE_er p x i m) 0 x.impls.xs
  unfold clsE
  rw [h1, h2]
  simp only [belowE_er, allUsable_er]
  simp only [Cl.er, List.length_map]
  rfl
theorem classI_er (p : Pk) (n : Int) : classI (Pk.er p) n = classI p n := by
  unfold classI
  simp only [Pk.er, List.getElem?_map]
  cases p.classes.xs[n.toNat]? <;> rfl
theorem named_er (p : Pk) (n : Nat) (i : In) : named (Pk.er p) n i = named p n i := by simp [named, Pk.er]
theorem instrE_er (p : Pk) (n : Nat) (i : In) : instrE (Pk.er p) n i = instrE p n i := by unfold instrE; rw [named_er]
theorem metE_er (p : Pk) (m : Me) : metE (Pk.er p) (Me.er m) = metE p m := by
  unfold metE
  simp only [classI_er, allUsable_er, instrE_er]
  simp only [Me.er, Pk.er, List.length_map]
  rfl
theorem classV_er (p : Pk) (n : Int) : classV (Pk.er p) n = classV p n := by
  unfold classV
  simp only [Pk.er, List.getElem?_map]
  cases p.classes.xs[n.toNat]? <;> rfl
theorem methI_er (p : Pk) (n : Int) : methI (Pk.er p) n = methI p n := by
  unfold methI
  simp only [Pk.er, List.getElem?_map]
  cases p.methods.xs[n.toNat]? <;> rfl
theorem appE_er (p : Pk) (k : Nat) (x : Ap) : appE (Pk.er p) k (Ap.er x) = appE p k x := by
  unfold appE
  simp only [classI_er, classV_er, methI_er]
  simp only [Pk.er, Ap.er, ← List.map_take, List.any_map, List.length_map]
  rfl
theorem listB_map {α β : Type} {F : β → List Int} {G : α → List Int} {f : α → β} (h : ∀ x, F (f x) = G x) (xs : List α) : listB F (xs.map f) = listB G xs := by
  have : (fun x => F (f x)) = G := by funext x; exact h x
  simp only [listB, List.length_map, List.flatMap_map, this]
theorem imB_er (y : Im) : imB (Im.er y) = imB y := rfl
theorem clB_er (x : Cl) : clB (Cl.er x) = clB x := by
  have h := listB_map imB_er x.impls.xs
  unfold clB
  simp only [Cl.er]
  rw [h]
  rfl
theorem meB_er (x : Me) : meB (Me.er x) = meB x := rfl
theorem pkB_er (p : Pk) : pkB (Pk.er p) = pkB p := by
  have h1 := listB_map (F := ipB) (G := ipB) (f := Ip.er) (fun _ => rfl) p.imports.xs
  have h2 := listB_map clB_er p.classes.xs
  have h3 := listB_map meB_er p.methods.xs
  have h4 := listB_map (F := apB) (G := apB) (f := Ap.er) (fun _ => rfl) p.applets.xs
  unfold pkB
  simp only [Pk.er]
  rw [h1, h2, h3, h4]
theorem partsE_er (p : Pk) : partsE (Pk.er p) = partsE p := by
  have h1 : firstE (fun k x => impE (Pk.er p) k x) 0 (Pk.er p).imports.xs = firstE (fun k x => impE p k x) 0 p.imports.xs := by
    show firstE _ 0 (p.imports.xs.map Ip.er) = _
    rw [firstE_map]
    exact firstE_same (fun k x => impE_er p k x) 0 _
  have h2 : firstE (fun k x => clsE (Pk.er p) k x) 0 (Pk.er p).classes.xs = firstE (fun k x => clsE p k x) 0 p.classes.xs := by
    show firstE _ 0 (p.classes.xs.map Cl.er) = _
    rw [firstE_map]
    exact firstE_same (fun k x => clsE_er p k x) 0 _
  have h3 : firstE (fun _ x => metE (Pk.er p) x) 0 (Pk.er p).methods.xs = firstE (fun _ x => metE p x) 0 p.methods.xs := by
    show firstE _ 0 (p.methods.xs.map Me.er) = _
    rw [firstE_map]
    exact firstE_same (fun _ x => metE_er p x) 0 _
  have h5 : firstE (fun k x => appE (Pk.er p) k x) 0 (Pk.er p).applets.xs = firstE (fun k x => appE p k x) 0 p.applets.xs := by
    show firstE _ 0 (p.applets.xs.map Ap.er) = _
    rw [firstE_map]
    exact firstE_same (fun k x => appE_er p k x) 0 _
  unfold partsE
  rw [h1, h2, h3, h5, pkB_er, allUsable_er]
  rfl
theorem checkE_er (p : Pk) : checkE (Pk.er p) = checkE p := by
  unfold checkE
  rw [partsE_er]
  simp only [Pk.er, List.length_map]

/-- The errors of a reader are no zeros. -/
def Nz {α : Type} (P : Rr α) : Prop := ∀ b c, P b = .error c → c ≠ 0
theorem Nz.pure {α : Type} (x : α) : Nz (Rr.pure x) := fun _ _ h => by cases h
theorem Nz.fail {α : Type} {e : Int} (h : e ≠ 0) : Nz (Rr.fail e : Rr α) := fun _ _ k => by cases k; exact h
theorem Nz.bind {α β : Type} {P : Rr α} {f : α → Rr β} (h : Nz P) (k : ∀ x, Nz (f x)) : Nz (P.bind f) := fun b c e => by
  unfold Rr.bind at e
  cases hp : P b with
  | error d => rw [hp] at e; cases e; exact h b _ hp
  | ok z => obtain ⟨x, r⟩ := z; rw [hp] at e; exact k x r c e
theorem Nz.num : Nz numP := fun b c h => by
  cases b with
  | nil => cases h; omega
  | cons x r => cases h
theorem Nz.bytes (n : Nat) : Nz (bytesP n) := fun b c h => by
  unfold bytesP at h
  split at h
  · cases h; omega
  · cases h
theorem Nz.wide : Nz wideP := fun b c h => by
  unfold wideP at h
  split at h
  · cases h
  · cases h; omega
theorem Nz.ite {α : Type} {p : Prop} [Decidable p] {P Q : Rr α} (h : p → Nz P) (k : ¬ p → Nz Q) : Nz (if p then P else Q) := by
  by_cases e : p
  · rw [if_pos e]; exact h e
  · rw [if_neg e]; exact k e
theorem Nz.rep {α : Type} {f : Rr α} (h : Nz f) : ∀ n, Nz (repP f n)
  | 0 => Nz.pure _
  | n + 1 => h.bind fun _ => (Nz.rep h n).bind fun _ => Nz.pure _
theorem Nz.list {α : Type} {f : Rr α} (h : Nz f) : Nz (listP f) := Nz.num.bind fun _ => Nz.rep h _
theorem Nz.rf : Nz refP := Nz.num.bind fun _ => Nz.num.bind fun _ => Nz.pure _
theorem Nz.typ : Nz typP := Nz.num.bind fun _ => Nz.ite (fun _ => Nz.fail (by omega)) fun _ => Nz.ite (fun _ => Nz.rf.bind fun _ => Nz.pure _) fun _ => Nz.pure _
theorem Nz.aid : Nz aidP := Nz.num.bind fun _ => Nz.bytes _
theorem Nz.virt : Nz virtP := Nz.num.bind fun _ => Nz.pure _
theorem Nz.im : Nz implP := Nz.rf.bind fun _ => Nz.num.list.bind fun _ => Nz.pure _
theorem Nz.cl : Nz clP := Nz.num.bind fun _ => Nz.ite (fun _ => Nz.fail (by omega)) fun _ => Nz.rf.bind fun _ => Nz.rf.list.bind fun _ => Nz.typ.list.bind fun _ => Nz.virt.list.bind fun _ => Nz.im.list.bind fun _ => Nz.pure _
theorem Nz.hd : Nz hdP := Nz.wide.bind fun _ => Nz.wide.bind fun _ => Nz.wide.bind fun _ => Nz.wide.bind fun _ => Nz.pure _
theorem Nz.ip : Nz ipP := Nz.aid.bind fun _ => Nz.num.bind fun _ => Nz.num.bind fun _ => Nz.pure _
theorem Nz.ap : Nz apP := Nz.aid.bind fun _ => Nz.num.bind fun _ => Nz.num.bind fun _ => Nz.pure _
theorem Nz.op (f : Int) : Nz (opP f) := fun b c h => by
  unfold opP at h
  repeat' split at h
  all_goals first | (cases h; done) | (cases h; omega)
theorem Nz.ins : Nz insP := Nz.num.bind fun _ => Nz.ite (fun _ => Nz.fail (by omega)) fun _ => (Nz.op _).bind fun _ => (Nz.op _).bind fun _ => (Nz.op _).bind fun _ => Nz.ite (fun _ => Nz.pure _) fun h => Nz.fail h
theorem dec_nz : ∀ (m n : Nat) (b : List Int) (c : Int), decP m n b = .error c → c ≠ 0
  | 0, _, _, _, h => by cases h
  | m + 1, n, b, c, h => by
    rw [decP] at h
    split at h
    · cases h
    · split at h
      · cases h; omega
      · split at h
        · split at h
          · cases h
          · rename_i e he
            cases h
            exact dec_nz m (n + 1) _ _ he
        · rename_i e he
          cases h
          exact Nz.ins _ _ he
theorem Nz.code : Nz codeP := Nz.wide.bind fun n => (Nz.bytes _).bind fun b r c h => by
  split at h
  · cases h
  · rename_i e he
    cases h
    exact dec_nz _ _ _ _ he
theorem Nz.me : Nz meP := Nz.num.bind fun _ => Nz.ite (fun _ => Nz.fail (by omega)) fun _ => Nz.num.bind fun _ => Nz.typ.list.bind fun _ => Nz.typ.bind fun _ => Nz.num.bind fun _ => Nz.num.bind fun _ => Nz.code.bind fun _ => Nz.hd.list.bind fun _ => Nz.pure _
theorem Nz.magic : Nz magicP := Nz.num.bind fun _ => Nz.ite (fun _ => Nz.num.bind fun _ => Nz.ite (fun _ => Nz.num.bind fun _ => Nz.ite (fun _ => Nz.pure _) fun _ => Nz.fail (by omega)) fun _ => Nz.fail (by omega)) fun _ => Nz.fail (by omega)
theorem Nz.fin : Nz endP := fun b c h => by
  unfold endP at h
  split at h
  · cases h
  · cases h; omega
theorem Nz.pk : Nz pkP := Nz.magic.bind fun _ => Nz.aid.bind fun _ => Nz.num.bind fun _ => Nz.num.bind fun _ => Nz.ip.list.bind fun _ => Nz.cl.list.bind fun _ => Nz.me.list.bind fun _ => Nz.typ.list.bind fun _ => Nz.ap.list.bind fun _ => Nz.fin.bind fun _ => Nz.pure _
/-- What Decode comes to. -/
def decodeP (b : List Int) : Except Int Pk :=
  if 2048 < b.length then .error 3 else match pkP b with
  | .error c => .error c
  | .ok (x, _) => if checkE x = 0 then .ok x else .error (checkE x)
theorem decodeP_long {b : List Int} (h : 2048 < b.length) : decodeP b = .error 3 := by unfold decodeP; rw [if_pos h]
theorem decodeP_bad {b : List Int} {c : Int} (h : ¬ 2048 < b.length) (hp : pkP b = .error c) : decodeP b = .error c := by unfold decodeP; rw [if_neg h, hp]
theorem decodeP_ok {b r : List Int} {p : Pk} (h : ¬ 2048 < b.length) (hp : pkP b = .ok (Pk.er p, r)) (hc : checkE p = 0) : decodeP b = .ok (Pk.er p) := by
  unfold decodeP; rw [if_neg h, hp]; simp only; rw [checkE_er, if_pos hc]
theorem decodeP_no {b r : List Int} {p : Pk} (h : ¬ 2048 < b.length) (hp : pkP b = .ok (Pk.er p, r)) (hc : ¬ checkE p = 0) : decodeP b = .error (checkE p) := by
  unfold decodeP; rw [if_neg h, hp]; simp only; rw [checkE_er, if_neg hc]
end Go.Proofs.YthagkijplklemaaGreatDoor
end
