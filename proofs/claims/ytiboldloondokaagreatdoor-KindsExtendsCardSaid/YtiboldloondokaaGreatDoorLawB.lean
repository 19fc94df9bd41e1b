/- Part of a proof. -/
import Derived.Test.YtiboldloondokaaGreatDoorEZp
import Derived.Test.YtiboldloondokaaGreatDoorEZt
import Derived.Test.YtiboldloondokaaGreatDoorELk
set_option maxRecDepth 100000
set_option maxHeartbeats 8000000
section
namespace Go.Proofs.YtiboldloondokaaGreatDoor
open Go.ChangeShapes Go.WideShapes Go.ChangeAt Go.RowKit Go.Sc
theorem kextends_law (s:Sl Pk) (a b:Rf) (w:World) (hs:Hid (Pks w s)) (ha:nmOk a) (hb:nmOk b) (hg:Hid (Glob w)):Gives Tryz.prog 10 #[s.v,a.v,b.v] w (.bool true):=by
 have hRt:Hid (∀ W:World,Below w.heap.size w W→Calls Tryz.prog 16 #[.slice s.a s.xs.length s.c] W (YesOut (Few s.xs∧checkL s.xs (upA s.xs)=0) W)):=hid fun W h=>right_any s W (hid (hs.out.mono h))
 have hW:Hid (∀ W:World,Below w.heap.size w W→Gives Tryz.prog 13 #[] W (.bool true)):=hid fun W h=>works_any W (hid (hg.out.mono h))
 obtain⟨X,hX⟩ : ∃ X,X=extE s.xs a b:=⟨_,rfl⟩
 obtain⟨Y,hY⟩ : ∃ Y,Y=extE s.xs a shr:=⟨_,rfl⟩
 have hE:Hid (∀ W:World,(Few s.xs∧checkL s.xs (upA s.xs)=0)→Below w.heap.size w W→Gives Tryz.prog 29 #[.slice s.a s.xs.length s.c,.agg #[.int .i64 a.p,.int .i64 a.c],.agg #[.int .i64 b.p,.int .i64 b.c]] W (.bool X)):=hid fun W hp h=>by rw[hX];exact pExtends_any s a b W (hid (hs.out.mono h)) (hid (hg.out.mono h)) hp.1 (good_of hp.2) ha hb
 have hR:Hid (∀ W:World,(Few s.xs∧checkL s.xs (upA s.xs)=0)→Below w.heap.size w W→Gives Tryz.prog 32 #[.slice s.a s.xs.length s.c,.agg #[.int .i64 a.p,.int .i64 a.c],.agg #[.int .i64 b.p,.int .i64 b.c]] W (.bool X)):=hid fun W hp h=>by rw[hX];exact rextends_any s a b W (hid (hs.out.mono h)) hp.1 (good_of hp.2).toFits
 have hS:Hid (∀ W:World,(Few s.xs∧checkL s.xs (upA s.xs)=0)→Below w.heap.size w W→Gives Tryz.prog 33 #[.slice s.a s.xs.length s.c,.agg #[.int .i64 a.p,.int .i64 a.c]] W (.bool Y)):=hid fun W hp h=>by rw[hY];exact pShareable_any s a W (hid (hs.out.mono h)) (hid (hg.out.mono h)) hp.1 (good_of hp.2) ha
 have hT:Hid (∀ W:World,(Few s.xs∧checkL s.xs (upA s.xs)=0)→Below w.heap.size w W→Gives Tryz.prog 34 #[.slice s.a s.xs.length s.c,.agg #[.int .i64 a.p,.int .i64 a.c]] W (.bool Y)):=hid fun W hp h=>by rw[hY];exact rshareable_any s a W (hid (hs.out.mono h)) hp.1 (good_of hp.2).toFits
 show Gives _ _ #[.slice s.a s.xs.length s.c,.agg #[.int .i64 a.p,.int .i64 a.c],.agg #[.int .i64 b.p,.int .i64 b.c]] _ _
 unfold Gives
 clear hX hY hs hg ha hb
 go_enter Tryz.func10,Tryz.ntmps10
 go_wp2_with (first|(go_at_call 16;refine(hRt.out _ BAX).mono ?_;rintro e w' ⟨bf,xf,rfl,rfl,HF⟩;cases bf)|(go_at_call 13;refine(hW.out _ BAX).go.mono ?_;rintro e w' ⟨rfl,xw,rfl⟩)|fail)
 ·go_ret
  exact⟨rfl,BAX⟩
 ·have HP:=hid (HF.out (by first|rfl|trivial))
  cases X <;> cases Y
  all_goals
   refine wp_region_ext (by kernel_rfl) (by kernel_rfl) ?_;(repeat (go_big_quiet_step ((first|(go_at_call 29;refine(hE.out _ HP.out BAX).at)|(go_at_call 32;refine(hR.out _ HP.out BAX).at)|(go_at_call 33;refine(hS.out _ HP.out BAX).at)|(go_at_call 34;refine(hT.out _ HP.out BAX).at)|(go_at_call 13;refine(hW.out _ BAX).at)))));refine wpQuiet_nil ?_;intro xw
   go_wp2_with fail
   go_ret
   exact⟨rfl,BAX⟩
theorem kindsExtends_lifted (os:Os) (started:os.Started) (H:Type) (enc:TypeId × Value→H) (F:Stop.Interp) :
  ReturnsInHanded {} Tryz.checked os 10 .any ((OpenSpec.ofChange Rows.kindsExtendsSpec).preRow enc Tryz.prog Tryz.f10 Rows.kindsExtendsRow.domain false Rows.kindsExtendsRow.laid) (((OpenSpec.ofChange Rows.kindsExtendsSpec).at F).post enc Tryz.prog Tryz.f10 false true false false):=by
 have hx : ∃ places,DataW.whole enc Tryz.prog ((laidWorld os).forCall (fun _ _=>0) ⟨#[],#[.slice none 0 0,.agg #[.int .i64 0,.int .i64 0],.agg #[.int .i64 0,.int .i64 0]],[]⟩).memory Tryz.f10.params.toList Rows.kindsExtendsSpec.vars false #[.slice none 0 0,.agg #[.int .i64 0,.int .i64 0],.agg #[.int .i64 0,.int .i64 0]].toList 16=some ([.nil,.agg [.lit (.int .i64 0),.lit (.int .i64 0)],.agg [.lit (.int .i64 0),.lit (.int .i64 0)]],[],places):=⟨[],by kernel_rfl⟩
 obtain⟨places,hx⟩:=hx
 refine returnsInHanded_of_row (C:=Tryz.checked) (s:=OpenSpec.ofChange Rows.kindsExtendsSpec) ownKnob' started (by kernel_rfl) Tryz.func10
  (witness_row_at (enc:=enc) (C:=Tryz.checked) false (laidWorld os) #[.slice none 0 0,.agg #[.int .i64 0,.int .i64 0],.agg #[.int .i64 0,.int .i64 0]] rfl (by kernel_rfl) (by kernel_rfl) (by kernel_rfl)
   (OpenSpec.preRow_of_cond 16 hx (by kernel_rfl) (fun k hk=>by cases hk) (by kernel_rfl) (laidMet_of_run' 16 (by kernel_rfl) (by kernel_rfl)))) ?_
 intro W base args ds gs before hval hW _ _ _ hL _ _
 refine law_post (f:=10) (fn:=Tryz.f10) (s:=Rows.kindsExtendsSpec) rfl rfl (by kernel_rfl) (fun ds hds=>?_) hW fun ps hA=>?_
 ·match ds,hds with
  | [_,_,_],_=>rfl
 ·have hO:=obj_at hL
  have hA':DataW.TrodAll enc Tryz.prog W 0 (fun _=>true) true [22,28,28] args.toList _ ps:=hA
  obtain⟨v0,vs0,d0,ds0,p0,q0,hargs,rfl,rfl,h0,r0⟩:=trodAll_cons hA'
  obtain⟨v1,vs1,d1,ds1,p1,q1,rfl,rfl,rfl,h1,r1⟩:=trodAll_cons r0
  obtain⟨v2,vs2,d2,ds2,p2,q2,rfl,rfl,rfl,h2,r2⟩:=trodAll_cons r1
  obtain⟨rfl,rfl,rfl⟩:=trodAll_nil r2
  obtain rfl:args = #[v0,v1,v2]:=by cases args;simp_all
  obtain⟨a0,rfl,k0⟩:=arg_pks (hval 0 _ _ rfl rfl) h0
  obtain⟨a1,rfl,k1⟩:=arg_rf (hval 1 _ _ rfl rfl) h1
  obtain⟨a2,rfl,k2⟩:=arg_rf (hval 2 _ _ rfl rfl) h2
  exact kextends_law a0 a1 a2 W (hid k0) k1 k2 (hid hO)
theorem kindsExtends_f1:(Rows.kindsExtendsRow.inPlace == Tryz.prog.inPlace 10)=true:=by kernel_rfl
theorem kindsExtends_f2:(Rows.kindsExtendsRow.unfollowed == Tryz.prog.unfollowed 10)=true:=by kernel_rfl
theorem kindsExtends_f3:(Rows.kindsExtendsRow.recurses == Tryz.prog.recurses 10)=true:=by kernel_rfl
theorem kindsExtends_f4:(Rows.kindsExtendsRow.named == Tryz.prog.varsNamed 10)=true:=by kernel_rfl
theorem kindsExtends_closed:joinedFacts Tryz.prog 10 Tryz.f10 (OpenSpec.ofChange Rows.kindsExtendsSpec).bare Rows.kindsExtendsRow=true:=by
 unfold joinedFacts
 exact and2 (and2 (and2 (and2 (and2 (and2 (and2 (and2 (and2 (and2 (and2 (and2 (and2 (and2 (and2 (and2 (and2 (and2 (and2 (and2 (and2 (and2 (and2 (and2 (and2 (and2 (and2 (and2 (and2 (and2 (and2 ((by kernel_rfl)) laidOut) wMaps) (by kernel_rfl)) (by kernel_rfl)) (by kernel_rfl)) wStops) (by kernel_rfl)) wKnobs) kindsExtends_f1) kindsExtends_f2) kindsExtends_f3) kindsExtends_f4) (by kernel_rfl)) (by kernel_rfl)) (by kernel_rfl)) (by kernel_rfl)) (by kernel_rfl)) (by kernel_rfl)) (by kernel_rfl)) (by kernel_rfl)) (by kernel_rfl)) wKeys) (by kernel_rfl)) wHeard) wEnter) wLifts) wMake) (by kernel_rfl)) (by kernel_rfl)) (by kernel_rfl)) (by kernel_rfl)
theorem kindsExtends_said:Rows.KindsExtendsSaid :=
 OpenClaim.holds_of_cond 10 Tryz.f10 rfl rfl rfl rfl rfl rfl rfl ⟨rfl,rfl,rfl,rfl,rfl⟩ rfl rfl rfl rfl rfl (by kernel_rfl) Tryz.func10 kindsExtends_closed
  (of_decide_eq_true (by kernel_rfl)) (by unfold Func.isWrapper;first|(rw[if_pos (by decide +kernel)];kernel_rfl)|(rw[if_neg (by decide +kernel)];exact⟨rfl,rfl⟩))
  (fun os started H enc _ F=>by rw[OpenClaim.pre_eq_preRow];exact kindsExtends_lifted os started H enc F)
theorem kindsExtends_plain (f:FuncId) (fn:Func) (hf:Tryz.pinned.checked.prog.funcNamed Rows.kindsExtendsRow.func=some f) (hfn:Tryz.pinned.checked.prog.funcs[f]? = some fn) :
  false=Tryz.pinned.checked.prog.looks []∧∀(j:Nat) t,fn.params[j]? = some t→Tryz.pinned.checked.prog.wantsStandIn t=false:=by
 obtain rfl:f=10:=Option.some.inj ((show Tryz.prog.funcNamed Rows.kindsExtendsRow.func=some 10 by kernel_rfl).symm.trans hf) |>.symm
 obtain rfl:fn=Tryz.f10:=(Option.some.inj (Tryz.func10.symm.trans hfn)).symm
 refine⟨by kernel_rfl,fun j t ht=>?_⟩
 have hall:(Tryz.f10.params.toList.all fun t=>!Tryz.pinned.checked.prog.wantsStandIn t)=true:=by kernel_rfl
 have hm:t∈Tryz.f10.params.toList:=by
  rw[Array.getElem?_eq_some_iff]at ht
  obtain⟨hl,he⟩:=ht
  rw[← he]
  simp
 simpa using List.all_eq_true.1 hall t hm
theorem kindsExtends_holds:Rows.KindsExtendsCardSaid :=
 Claim7.holds_tied_plain_at .later [] _ _ _ _ kindsExtends_said (fun _ h=>by cases h) (by kernel_rfl) (fun _ h=>by cases h) kindsExtends_row_tie rfl ⟨rfl,rfl⟩ (by kernel_rfl) rfl kindsExtends_plain (by kernel_rfl)
#print axioms kindsExtends_holds
end Go.Proofs.YtiboldloondokaaGreatDoor
end
