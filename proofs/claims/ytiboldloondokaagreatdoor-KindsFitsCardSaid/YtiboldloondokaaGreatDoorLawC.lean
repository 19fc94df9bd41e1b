/- Part of a proof. -/
import Derived.Test.YtiboldloondokaaGreatDoorEVp
import Derived.Test.YtiboldloondokaaGreatDoorEUj
import Derived.Test.YtiboldloondokaaGreatDoorEZt
import Derived.Test.YtiboldloondokaaGreatDoorELk
set_option maxRecDepth 100000
set_option maxHeartbeats 8000000
section
namespace Go.Proofs.YtiboldloondokaaGreatDoor
open Go.ChangeShapes Go.WideShapes Go.ChangeAt Go.RowKit Go.Sc
theorem kfits_law (s:Sl Pk) (a b:Ty) (w:World) (hs:Hid (Pks w s)) (ha:nmOk a.c) (hb:nmOk b.c) (hg:Hid (Glob w)):Gives Tryz.prog 6 #[s.v,a.v,b.v] w (.bool true):=by
 have hRt:Hid (∀ W:World,Below w.heap.size w W→Calls Tryz.prog 16 #[.slice s.a s.xs.length s.c] W (YesOut (Few s.xs∧checkL s.xs (upA s.xs)=0) W)):=hid fun W h=>right_any s W (hid (hs.out.mono h))
 have hW:Hid (∀ W:World,Below w.heap.size w W→Gives Tryz.prog 13 #[] W (.bool true)):=hid fun W h=>works_any W (hid (hg.out.mono h))
 obtain⟨X,hX⟩ : ∃ X,X=fitsB s.xs a b:=⟨_,rfl⟩
 obtain⟨Y,hY⟩ : ∃ Y,Y=fitsB s.xs b a:=⟨_,rfl⟩
 obtain⟨J,hJ⟩ : ∃ J,J=joinL s.xs a b:=⟨_,rfl⟩
 have hE:Hid (∀ W:World,(Few s.xs∧checkL s.xs (upA s.xs)=0)→Below w.heap.size w W→Gives Tryz.prog 23 #[.slice s.a s.xs.length s.c,.agg #[.int .i64 a.k,.int .i64 a.c.p,.int .i64 a.c.c],.agg #[.int .i64 b.k,.int .i64 b.c.p,.int .i64 b.c.c]] W (.bool X)):=hid fun W hp h=>by rw[hX];exact pfits_any s a b W (hid (hs.out.mono h)) (hid (hg.out.mono h)) hp.1 (good_of hp.2) ha hb
 have hR:Hid (∀ W:World,(Few s.xs∧checkL s.xs (upA s.xs)=0)→Below w.heap.size w W→Gives Tryz.prog 24 #[.slice s.a s.xs.length s.c,.agg #[.int .i64 a.k,.int .i64 a.c.p,.int .i64 a.c.c],.agg #[.int .i64 b.k,.int .i64 b.c.p,.int .i64 b.c.c]] W (.bool X)):=hid fun W hp h=>by rw[hX];exact rfits_any s a b W (hid (hs.out.mono h)) hp.1 (good_of hp.2).toFits
 have hE2:Hid (∀ W:World,(Few s.xs∧checkL s.xs (upA s.xs)=0)→Below w.heap.size w W→Gives Tryz.prog 23 #[.slice s.a s.xs.length s.c,.agg #[.int .i64 b.k,.int .i64 b.c.p,.int .i64 b.c.c],.agg #[.int .i64 a.k,.int .i64 a.c.p,.int .i64 a.c.c]] W (.bool Y)):=hid fun W hp h=>by rw[hY];exact pfits_any s b a W (hid (hs.out.mono h)) (hid (hg.out.mono h)) hp.1 (good_of hp.2) hb ha
 have hR2:Hid (∀ W:World,(Few s.xs∧checkL s.xs (upA s.xs)=0)→Below w.heap.size w W→Gives Tryz.prog 24 #[.slice s.a s.xs.length s.c,.agg #[.int .i64 b.k,.int .i64 b.c.p,.int .i64 b.c.c],.agg #[.int .i64 a.k,.int .i64 a.c.p,.int .i64 a.c.c]] W (.bool Y)):=hid fun W hp h=>by rw[hY];exact rfits_any s b a W (hid (hs.out.mono h)) hp.1 (good_of hp.2).toFits
 have hS:Hid (∀ W:World,(Few s.xs∧checkL s.xs (upA s.xs)=0)→Below w.heap.size w W→Gives Tryz.prog 25 #[.slice s.a s.xs.length s.c,.agg #[.int .i64 a.k,.int .i64 a.c.p,.int .i64 a.c.c],.agg #[.int .i64 b.k,.int .i64 b.c.p,.int .i64 b.c.c]] W (.agg #[.int .i64 J.k,.int .i64 J.c.p,.int .i64 J.c.c])):=hid fun W hp h=>by rw[hJ];exact pjoin_any s a b W (hid (hs.out.mono h)) (hid (hg.out.mono h)) hp.1 (good_of hp.2) ha hb
 have hT:Hid (∀ W:World,(Few s.xs∧checkL s.xs (upA s.xs)=0)→Below w.heap.size w W→Gives Tryz.prog 26 #[.slice s.a s.xs.length s.c,.agg #[.int .i64 a.k,.int .i64 a.c.p,.int .i64 a.c.c],.agg #[.int .i64 b.k,.int .i64 b.c.p,.int .i64 b.c.c]] W (.agg #[.int .i64 J.k,.int .i64 J.c.p,.int .i64 J.c.c])):=hid fun W hp h=>by rw[hJ];exact rjoin_any s a b W (hid (hs.out.mono h)) hp.1 (good_of hp.2).toFits
 show Gives _ _ #[.slice s.a s.xs.length s.c,.agg #[.int .i64 a.k,.int .i64 a.c.p,.int .i64 a.c.c],.agg #[.int .i64 b.k,.int .i64 b.c.p,.int .i64 b.c.c]] _ _
 unfold Gives
 clear hX hY hJ hs hg ha hb
 go_enter Tryz.func6,Tryz.ntmps6
 go_wp2_with (first|(go_at_call 16;refine(hRt.out _ BAX).mono ?_;rintro e w' ⟨bf,xf,rfl,rfl,HF⟩;cases bf)|(go_at_call 13;refine(hW.out _ BAX).go.mono ?_;rintro e w' ⟨rfl,xw,rfl⟩)|fail)
 ·go_ret
  exact⟨rfl,BAX⟩
 ·have HP:=hid (HF.out (by first|rfl|trivial))
  cases X <;> cases Y
  all_goals
   refine wp_region_ext (by kernel_rfl) (by kernel_rfl) ?_;(repeat (go_big_quiet_step ((first|(go_at_call 23;first|(with_reducible refine(hE.out _ HP.out BAX).at)|(with_reducible refine(hE2.out _ HP.out BAX).at))|(go_at_call 24;first|(with_reducible refine(hR.out _ HP.out BAX).at)|(with_reducible refine(hR2.out _ HP.out BAX).at))|(go_at_call 25;refine(hS.out _ HP.out BAX).at)|(go_at_call 26;refine(hT.out _ HP.out BAX).at)|(go_at_call 13;refine(hW.out _ BAX).at)))));refine wpQuiet_nil ?_;intro xw
   go_wp2_with fail
   go_ret
   exact⟨rfl,BAX⟩
theorem kindsFits_lifted (os:Os) (started:os.Started) (H:Type) (enc:TypeId × Value→H) (F:Stop.Interp) :
  ReturnsInHanded {} Tryz.checked os 6 .any ((OpenSpec.ofChange Rows.kindsFitsSpec).preRow enc Tryz.prog Tryz.f6 Rows.kindsFitsRow.domain false Rows.kindsFitsRow.laid) (((OpenSpec.ofChange Rows.kindsFitsSpec).at F).post enc Tryz.prog Tryz.f6 false true false false):=by
 have hx : ∃ places,DataW.whole enc Tryz.prog ((laidWorld os).forCall (fun _ _=>0) ⟨#[],#[.slice none 0 0,.agg #[.int .i64 0,.int .i64 0,.int .i64 0],.agg #[.int .i64 0,.int .i64 0,.int .i64 0]],[]⟩).memory Tryz.f6.params.toList Rows.kindsFitsSpec.vars false #[.slice none 0 0,.agg #[.int .i64 0,.int .i64 0,.int .i64 0],.agg #[.int .i64 0,.int .i64 0,.int .i64 0]].toList 16=some ([.nil,.agg [.lit (.int .i64 0),.agg [.lit (.int .i64 0),.lit (.int .i64 0)]],.agg [.lit (.int .i64 0),.agg [.lit (.int .i64 0),.lit (.int .i64 0)]]],[],places):=⟨[],by kernel_rfl⟩
 obtain⟨places,hx⟩:=hx
 refine returnsInHanded_of_row (C:=Tryz.checked) (s:=OpenSpec.ofChange Rows.kindsFitsSpec) ownKnob' started (by kernel_rfl) Tryz.func6
  (witness_row_at (enc:=enc) (C:=Tryz.checked) false (laidWorld os) #[.slice none 0 0,.agg #[.int .i64 0,.int .i64 0,.int .i64 0],.agg #[.int .i64 0,.int .i64 0,.int .i64 0]] rfl (by kernel_rfl) (by kernel_rfl) (by kernel_rfl)
   (OpenSpec.preRow_of_cond 16 hx (by kernel_rfl) (fun k hk=>by cases hk) (by kernel_rfl) (laidMet_of_run' 16 (by kernel_rfl) (by kernel_rfl)))) ?_
 intro W base args ds gs before hval hW _ _ _ hL _ _
 refine law_post (f:=6) (fn:=Tryz.f6) (s:=Rows.kindsFitsSpec) rfl rfl (by kernel_rfl) (fun ds hds=>?_) hW fun ps hA=>?_
 ·match ds,hds with
  | [_,_,_],_=>rfl
 ·have hO:=obj_at hL
  have hA':DataW.TrodAll enc Tryz.prog W 0 (fun _=>true) true [22,38,38] args.toList _ ps:=hA
  obtain⟨v0,vs0,d0,ds0,p0,q0,hargs,rfl,rfl,h0,r0⟩:=trodAll_cons hA'
  obtain⟨v1,vs1,d1,ds1,p1,q1,rfl,rfl,rfl,h1,r1⟩:=trodAll_cons r0
  obtain⟨v2,vs2,d2,ds2,p2,q2,rfl,rfl,rfl,h2,r2⟩:=trodAll_cons r1
  obtain⟨rfl,rfl,rfl⟩:=trodAll_nil r2
  obtain rfl:args = #[v0,v1,v2]:=by cases args;simp_all
  obtain⟨a0,rfl,k0⟩:=arg_pks (hval 0 _ _ rfl rfl) h0
  obtain⟨a1,rfl,k1⟩:=arg_ty (hval 1 _ _ rfl rfl) h1
  obtain⟨a2,rfl,k2⟩:=arg_ty (hval 2 _ _ rfl rfl) h2
  exact kfits_law a0 a1 a2 W (hid k0) k1 k2 (hid hO)
theorem kindsFits_f1:(Rows.kindsFitsRow.inPlace == Tryz.prog.inPlace 6)=true:=by kernel_rfl
theorem kindsFits_f2:(Rows.kindsFitsRow.unfollowed == Tryz.prog.unfollowed 6)=true:=by kernel_rfl
theorem kindsFits_f3:(Rows.kindsFitsRow.recurses == Tryz.prog.recurses 6)=true:=by kernel_rfl
theorem kindsFits_f4:(Rows.kindsFitsRow.named == Tryz.prog.varsNamed 6)=true:=by kernel_rfl
theorem kindsFits_closed:joinedFacts Tryz.prog 6 Tryz.f6 (OpenSpec.ofChange Rows.kindsFitsSpec).bare Rows.kindsFitsRow=true:=by
 unfold joinedFacts
 exact and2 (and2 (and2 (and2 (and2 (and2 (and2 (and2 (and2 (and2 (and2 (and2 (and2 (and2 (and2 (and2 (and2 (and2 (and2 (and2 (and2 (and2 (and2 (and2 (and2 (and2 (and2 (and2 (and2 (and2 (and2 ((by kernel_rfl)) laidOut) wMaps) (by kernel_rfl)) (by kernel_rfl)) (by kernel_rfl)) wStops) (by kernel_rfl)) wKnobs) kindsFits_f1) kindsFits_f2) kindsFits_f3) kindsFits_f4) (by kernel_rfl)) (by kernel_rfl)) (by kernel_rfl)) (by kernel_rfl)) (by kernel_rfl)) (by kernel_rfl)) (by kernel_rfl)) (by kernel_rfl)) (by kernel_rfl)) wKeys) (by kernel_rfl)) wHeard) wEnter) wLifts) wMake) (by kernel_rfl)) (by kernel_rfl)) (by kernel_rfl)) (by kernel_rfl)
theorem kindsFits_said:Rows.KindsFitsSaid :=
 OpenClaim.holds_of_cond 6 Tryz.f6 rfl rfl rfl rfl rfl rfl rfl ⟨rfl,rfl,rfl,rfl,rfl⟩ rfl rfl rfl rfl rfl (by kernel_rfl) Tryz.func6 kindsFits_closed
  (of_decide_eq_true (by kernel_rfl)) (by unfold Func.isWrapper;first|(rw[if_pos (by decide +kernel)];kernel_rfl)|(rw[if_neg (by decide +kernel)];exact⟨rfl,rfl⟩))
  (fun os started H enc _ F=>by rw[OpenClaim.pre_eq_preRow];exact kindsFits_lifted os started H enc F)
theorem kindsFits_plain (f:FuncId) (fn:Func) (hf:Tryz.pinned.checked.prog.funcNamed Rows.kindsFitsRow.func=some f) (hfn:Tryz.pinned.checked.prog.funcs[f]? = some fn) :
  false=Tryz.pinned.checked.prog.looks []∧∀(j:Nat) t,fn.params[j]? = some t→Tryz.pinned.checked.prog.wantsStandIn t=false:=by
 obtain rfl:f=6:=Option.some.inj ((show Tryz.prog.funcNamed Rows.kindsFitsRow.func=some 6 by kernel_rfl).symm.trans hf) |>.symm
 obtain rfl:fn=Tryz.f6:=(Option.some.inj (Tryz.func6.symm.trans hfn)).symm
 refine⟨by kernel_rfl,fun j t ht=>?_⟩
 have hall:(Tryz.f6.params.toList.all fun t=>!Tryz.pinned.checked.prog.wantsStandIn t)=true:=by kernel_rfl
 have hm:t∈Tryz.f6.params.toList:=by
  rw[Array.getElem?_eq_some_iff]at ht
  obtain⟨hl,he⟩:=ht
  rw[← he]
  simp
 simpa using List.all_eq_true.1 hall t hm
theorem kindsFits_holds:Rows.KindsFitsCardSaid :=
 Claim7.holds_tied_plain_at .later [] _ _ _ _ kindsFits_said (fun _ h=>by cases h) (by kernel_rfl) (fun _ h=>by cases h) kindsFits_row_tie rfl ⟨rfl,rfl⟩ (by kernel_rfl) rfl kindsFits_plain (by kernel_rfl)
#print axioms kindsFits_holds
end Go.Proofs.YtiboldloondokaaGreatDoor
end
