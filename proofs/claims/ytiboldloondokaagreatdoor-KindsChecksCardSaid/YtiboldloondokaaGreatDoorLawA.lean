/- Part of a proof. -/
import Derived.Test.YtiboldloondokaaGreatDoorC36
set_option maxRecDepth 100000
set_option maxHeartbeats 8000000
section
namespace Go.Proofs.YtiboldloondokaaGreatDoor
open Go.ChangeShapes Go.WideShapes Go.ChangeAt Go.RowKit Go.Sc
theorem kchecks_law (s:Sl Pk) (w:World) (hs:Hid (Pks w s)) (hg:Hid (Glob w)):Gives Tryz.prog 3 #[s.v] w (.bool true):=by
 have hFw:Hid (∀ W:World,Below w.heap.size w W→Calls Tryz.prog 12 #[.slice s.a s.xs.length s.c] W (YesOut (Few s.xs) W)):=hid fun W h=>few_any s W (hid (hs.out.mono h))
 have hW:Hid (∀ W:World,Below w.heap.size w W→Gives Tryz.prog 13 #[] W (.bool true)):=hid fun W h=>works_any W (hid (hg.out.mono h))
 obtain⟨E,hE⟩ : ∃ E,E=checkL s.xs (upA s.xs):=⟨_,rfl⟩
 have hC:Hid (∀ W:World,Few s.xs→Below w.heap.size w W→Gives Tryz.prog 14 #[.slice s.a s.xs.length s.c] W (.int .i64 E)):=hid fun W h1 h=>by
  have:=pCheck_any s W (hid (hs.out.mono h)) (hid (hg.out.mono h)) h1
  rw[checkP_eq]at this
  rw[hE]
  exact this
 have hR:Hid (∀ W:World,Few s.xs→Below w.heap.size w W→Gives Tryz.prog 15 #[.slice s.a s.xs.length s.c] W (.int .i64 E)):=hid fun W h1 h=>by rw[hE];exact rcheck29_any s W (hid (hs.out.mono h)) h1
 show Gives _ _ #[.slice s.a s.xs.length s.c] _ _
 unfold Gives
 clear hE hs hg
 go_enter Tryz.func3,Tryz.ntmps3
 go_wp2_with (first|(go_at_call 12;refine(hFw.out _ BAX).mono ?_;rintro e w' ⟨bf,xf,rfl,rfl,HF⟩;cases bf)|(go_at_call 13;refine(hW.out _ BAX).go.mono ?_;rintro e w' ⟨rfl,xw,rfl⟩)|(go_at_call 14;refine(hC.out _ (HF.out (by first|rfl|trivial)) BAX).go.mono ?_;rintro e w' ⟨rfl,xw,rfl⟩)|(go_at_call 15;refine(hR.out _ (HF.out (by first|rfl|trivial)) BAX).go.mono ?_;rintro e w' ⟨rfl,xw,rfl⟩)|fail)
 all_goals
  go_ret
  exact⟨rfl,BAX⟩
theorem kindsChecks_lifted (os:Os) (started:os.Started) (H:Type) (enc:TypeId × Value→H) (F:Stop.Interp) :
  ReturnsInHanded {} Tryz.checked os 3 .any ((OpenSpec.ofChange Rows.kindsChecksSpec).preRow enc Tryz.prog Tryz.f3 Rows.kindsChecksRow.domain false Rows.kindsChecksRow.laid) (((OpenSpec.ofChange Rows.kindsChecksSpec).at F).post enc Tryz.prog Tryz.f3 false true false false):=by
 have hx : ∃ places,DataW.whole enc Tryz.prog ((laidWorld os).forCall (fun _ _=>0) ⟨#[],#[.slice none 0 0],[]⟩).memory Tryz.f3.params.toList Rows.kindsChecksSpec.vars false #[.slice none 0 0].toList 16=some ([.nil],[],places):=⟨[],by kernel_rfl⟩
 obtain⟨places,hx⟩:=hx
 refine returnsInHanded_of_row (C:=Tryz.checked) (s:=OpenSpec.ofChange Rows.kindsChecksSpec) ownKnob' started (by kernel_rfl) Tryz.func3
  (witness_row_at (enc:=enc) (C:=Tryz.checked) false (laidWorld os) #[.slice none 0 0] rfl (by kernel_rfl) (by kernel_rfl) (by kernel_rfl)
   (OpenSpec.preRow_of_cond 16 hx (by kernel_rfl) (fun k hk=>by cases hk) (by kernel_rfl) (laidMet_of_run' 16 (by kernel_rfl) (by kernel_rfl)))) ?_
 intro W base args ds gs before hval hW _ _ _ hL _ _
 refine law_post (f:=3) (fn:=Tryz.f3) (s:=Rows.kindsChecksSpec) rfl rfl (by kernel_rfl) (fun ds hds=>?_) hW fun ps hA=>?_
 ·match ds,hds with
  | [_],_=>rfl
 ·have hO:=obj_at hL
  have hA':DataW.TrodAll enc Tryz.prog W 0 (fun _=>true) true [22] args.toList _ ps:=hA
  obtain⟨v0,vs0,d0,ds0,p0,q0,hargs,rfl,rfl,h0,r0⟩:=trodAll_cons hA'
  obtain⟨rfl,rfl,rfl⟩:=trodAll_nil r0
  obtain rfl:args = #[v0]:=by cases args;simp_all
  obtain⟨a0,rfl,k0⟩:=arg_pks (hval 0 _ _ rfl rfl) h0
  exact kchecks_law a0 W (hid k0) (hid hO)
theorem kindsChecks_f1:(Rows.kindsChecksRow.inPlace == Tryz.prog.inPlace 3)=true:=by kernel_rfl
theorem kindsChecks_f2:(Rows.kindsChecksRow.unfollowed == Tryz.prog.unfollowed 3)=true:=by kernel_rfl
theorem kindsChecks_f3:(Rows.kindsChecksRow.recurses == Tryz.prog.recurses 3)=true:=by kernel_rfl
theorem kindsChecks_f4:(Rows.kindsChecksRow.named == Tryz.prog.varsNamed 3)=true:=by kernel_rfl
theorem kindsChecks_closed:joinedFacts Tryz.prog 3 Tryz.f3 (OpenSpec.ofChange Rows.kindsChecksSpec).bare Rows.kindsChecksRow=true:=by
 unfold joinedFacts
 exact and2 (and2 (and2 (and2 (and2 (and2 (and2 (and2 (and2 (and2 (and2 (and2 (and2 (and2 (and2 (and2 (and2 (and2 (and2 (and2 (and2 (and2 (and2 (and2 (and2 (and2 (and2 (and2 (and2 (and2 (and2 ((by kernel_rfl)) laidOut) wMaps) (by kernel_rfl)) (by kernel_rfl)) (by kernel_rfl)) wStops) (by kernel_rfl)) wKnobs) kindsChecks_f1) kindsChecks_f2) kindsChecks_f3) kindsChecks_f4) (by kernel_rfl)) (by kernel_rfl)) (by kernel_rfl)) (by kernel_rfl)) (by kernel_rfl)) (by kernel_rfl)) (by kernel_rfl)) (by kernel_rfl)) (by kernel_rfl)) wKeys) (by kernel_rfl)) wHeard) wEnter) wLifts) wMake) (by kernel_rfl)) (by kernel_rfl)) (by kernel_rfl)) (by kernel_rfl)
theorem kindsChecks_said:Rows.KindsChecksSaid :=
 OpenClaim.holds_of_cond 3 Tryz.f3 rfl rfl rfl rfl rfl rfl rfl ⟨rfl,rfl,rfl,rfl,rfl⟩ rfl rfl rfl rfl rfl (by kernel_rfl) Tryz.func3 kindsChecks_closed
  (of_decide_eq_true (by kernel_rfl)) (by unfold Func.isWrapper;first|(rw[if_pos (by decide +kernel)];kernel_rfl)|(rw[if_neg (by decide +kernel)];exact⟨rfl,rfl⟩))
  (fun os started H enc _ F=>by rw[OpenClaim.pre_eq_preRow];exact kindsChecks_lifted os started H enc F)
theorem kindsChecks_plain (f:FuncId) (fn:Func) (hf:Tryz.pinned.checked.prog.funcNamed Rows.kindsChecksRow.func=some f) (hfn:Tryz.pinned.checked.prog.funcs[f]? = some fn) :
  false=Tryz.pinned.checked.prog.looks []∧∀(j:Nat) t,fn.params[j]? = some t→Tryz.pinned.checked.prog.wantsStandIn t=false:=by
 obtain rfl:f=3:=Option.some.inj ((show Tryz.prog.funcNamed Rows.kindsChecksRow.func=some 3 by kernel_rfl).symm.trans hf) |>.symm
 obtain rfl:fn=Tryz.f3:=(Option.some.inj (Tryz.func3.symm.trans hfn)).symm
 refine⟨by kernel_rfl,fun j t ht=>?_⟩
 have hall:(Tryz.f3.params.toList.all fun t=>!Tryz.pinned.checked.prog.wantsStandIn t)=true:=by kernel_rfl
 have hm:t∈Tryz.f3.params.toList:=by
  rw[Array.getElem?_eq_some_iff]at ht
  obtain⟨hl,he⟩:=ht
  rw[← he]
  simp
 simpa using List.all_eq_true.1 hall t hm
theorem kindsChecks_holds:Rows.KindsChecksCardSaid :=
 Claim7.holds_tied_plain_at .later [] _ _ _ _ kindsChecks_said (fun _ h=>by cases h) (by kernel_rfl) (fun _ h=>by cases h) kindsChecks_row_tie rfl ⟨rfl,rfl⟩ (by kernel_rfl) rfl kindsChecks_plain (by kernel_rfl)
#print axioms kindsChecks_holds
end Go.Proofs.YtiboldloondokaaGreatDoor
end
