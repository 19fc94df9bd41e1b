/- Part of a proof. -/
import Derived.Test.YtiboldloondokaaGreatDoorEVi
import Derived.Test.YtiboldloondokaaGreatDoorEZo
import Derived.Test.YtiboldloondokaaGreatDoorEZt
import Derived.Test.YtiboldloondokaaGreatDoorELk
set_option maxRecDepth 100000
set_option maxHeartbeats 8000000
section
namespace Go.Proofs.YtiboldloondokaaGreatDoor
open Go.ChangeShapes Go.WideShapes Go.ChangeAt Go.RowKit Go.Sc
theorem kfields_law (s:Sl Pk) (r:Rf) (w:World) (hs:Hid (Pks w s)) (hr:nmOk r) (hg:Hid (Glob w)):Gives Tryz.prog 5 #[s.v,r.v] w (.bool true):=by
 have hRt:Hid (∀ W:World,Below w.heap.size w W→Calls Tryz.prog 16 #[.slice s.a s.xs.length s.c] W (YesOut (Few s.xs∧checkL s.xs (upA s.xs)=0) W)):=hid fun W h=>right_any s W (hid (hs.out.mono h))
 have hW:Hid (∀ W:World,Below w.heap.size w W→Gives Tryz.prog 13 #[] W (.bool true)):=hid fun W h=>works_any W (hid (hg.out.mono h))
 obtain⟨F,hF⟩ : ∃ F,F=fieldsL s.xs r:=⟨_,rfl⟩
 obtain⟨n,hn⟩ : ∃ n,n=F.length:=⟨_,rfl⟩
 by_cases hb:fieldsB s.xs r=true
 ·have hE:Hid (∀ W:World,(Few s.xs∧checkL s.xs (upA s.xs)=0)→Below w.heap.size w W→Calls Tryz.prog 20 #[.slice s.a s.xs.length s.c,.agg #[.int .i64 r.p,.int .i64 r.c]] W fun e w'=>∃(a:Option Addr) (c:Nat) (x:Ext W),e = .returned (.tuple #[.slice a n c,.bool true])∧w'=x.val∧Hid (Go.Sc.Own eT 3 38 x.val W.heap.size (.slice a n c) F)∧Hid ((⟨a,c,F⟩:Sl Ty).Ok eT 3 x.val)):=hid fun W hp h=>by
   rw[hF]
   exact(pFields_yes s r W (hid (hs.out.mono h)) (hid (hg.out.mono h)) hp.1 (good_of hp.2) hr.1 hb).goT n (by rw[hn,hF])
  have hR:Hid (∀ W:World,(Few s.xs∧checkL s.xs (upA s.xs)=0)→Below w.heap.size w W→Calls Tryz.prog 21 #[.slice s.a s.xs.length s.c,.agg #[.int .i64 r.p,.int .i64 r.c]] W fun e w'=>∃(a:Option Addr) (c:Nat) (x:Ext W),e = .returned (.tuple #[.slice a n c,.bool true])∧w'=x.val∧Hid (Go.Sc.Own eT 3 38 x.val W.heap.size (.slice a n c) F)∧Hid ((⟨a,c,F⟩:Sl Ty).Ok eT 3 x.val)):=hid fun W hp h=>by
   rw[hF]
   exact(rfields_yes s r W (hid (hs.out.mono h)) hp.1 (good_of hp.2).toFits hb).goT n (by rw[hn,hF])
  have hS:Hid (∀(a:Option Addr) (c:Nat) (a':Option Addr) (c':Nat) (W:World),(⟨a,c,F⟩:Sl Ty).Ok eT 3 W→(⟨a',c',F⟩:Sl Ty).Ok eT 3 W→Gives Tryz.prog 22 #[.slice a n c,.slice a' n c'] W (.bool true)):=hid fun a c a' c' W h1 h2=>by
   have:=rsameTypes_any ⟨a,c,F⟩ ⟨a',c',F⟩ W (hid h1) (hid h2)
   rw[decide_eq_true rfl]at this
   rw[hn]
   exact this
  show Gives _ _ #[.slice s.a s.xs.length s.c,.agg #[.int .i64 r.p,.int .i64 r.c]] _ _
  unfold Gives
  clear hF hn hb hs hg hr
  go_enter Tryz.func5,Tryz.ntmps5
  go_wp2_with (first|(go_at_call 16;refine(hRt.out _ BAX).mono ?_;rintro e w' ⟨bf,xf,rfl,rfl,HF⟩;cases bf)|(go_at_call 13;refine(hW.out _ BAX).go.mono ?_;rintro e w' ⟨rfl,xw,rfl⟩)|(go_at_call 20;refine(hE.out _ (HF.out (by first|rfl|trivial)) BAX).mono ?_;rintro e w' ⟨fa,fc,x1,rfl,rfl,-,hk1⟩)|(go_at_call 21;refine(hR.out _ (HF.out (by first|rfl|trivial)) BAX).mono ?_;rintro e w' ⟨ga,gc,x2,rfl,rfl,-,hk2⟩)|(go_at_call 22;refine(hS.out _ _ _ _ _ (Sl.Ok.mono hk1.out BAX) (Sl.Ok.mono hk2.out BAX)).go.mono ?_;rintro e w' ⟨rfl,xw,rfl⟩)|fail)
  all_goals
   go_ret
   exact⟨rfl,BAX⟩
 ·have hb:fieldsB s.xs r=false:=by simpa using hb
  have hE:Hid (∀ W:World,(Few s.xs∧checkL s.xs (upA s.xs)=0)→Below w.heap.size w W→Gives Tryz.prog 20 #[.slice s.a s.xs.length s.c,.agg #[.int .i64 r.p,.int .i64 r.c]] W (.tuple #[.slice none 0 0,.bool false])):=hid fun W hp h=>pFields_no s r W (hid (hs.out.mono h)) (hid (hg.out.mono h)) hp.1 (good_of hp.2) hr.1 hb
  have hR:Hid (∀ W:World,(Few s.xs∧checkL s.xs (upA s.xs)=0)→Below w.heap.size w W→Gives Tryz.prog 21 #[.slice s.a s.xs.length s.c,.agg #[.int .i64 r.p,.int .i64 r.c]] W (.tuple #[.slice none 0 0,.bool false])):=hid fun W hp h=>rfields_no s r W (hid (hs.out.mono h)) hp.1 (good_of hp.2).toFits hb
  have hS:Hid (∀ W:World,Gives Tryz.prog 22 #[.slice none 0 0,.slice none 0 0] W (.bool true)):=hid fun W=>by
   have:=rsameTypes_any ⟨none,0,[]⟩ ⟨none,0,[]⟩ W (hid nil_ok) (hid nil_ok)
   rwa [decide_eq_true rfl]at this
  show Gives _ _ #[.slice s.a s.xs.length s.c,.agg #[.int .i64 r.p,.int .i64 r.c]] _ _
  unfold Gives
  clear hF hn hb hs hg hr
  go_enter Tryz.func5,Tryz.ntmps5
  go_wp2_with (first|(go_at_call 16;refine(hRt.out _ BAX).mono ?_;rintro e w' ⟨bf,xf,rfl,rfl,HF⟩;cases bf)|(go_at_call 13;refine(hW.out _ BAX).go.mono ?_;rintro e w' ⟨rfl,xw,rfl⟩)|(go_at_call 20;refine(hE.out _ (HF.out (by first|rfl|trivial)) BAX).go.mono ?_;rintro e w' ⟨rfl,xw,rfl⟩)|(go_at_call 21;refine(hR.out _ (HF.out (by first|rfl|trivial)) BAX).go.mono ?_;rintro e w' ⟨rfl,xw,rfl⟩)|(go_at_call 22;refine(hS.out _).go.mono ?_;rintro e w' ⟨rfl,xw,rfl⟩)|fail)
  all_goals
   go_ret
   exact⟨rfl,BAX⟩
theorem kindsFields_lifted (os:Os) (started:os.Started) (H:Type) (enc:TypeId × Value→H) (F:Stop.Interp) :
  ReturnsInHanded {} Tryz.checked os 5 .any ((OpenSpec.ofChange Rows.kindsFieldsSpec).preRow enc Tryz.prog Tryz.f5 Rows.kindsFieldsRow.domain false Rows.kindsFieldsRow.laid) (((OpenSpec.ofChange Rows.kindsFieldsSpec).at F).post enc Tryz.prog Tryz.f5 false true false false):=by
 have hx : ∃ places,DataW.whole enc Tryz.prog ((laidWorld os).forCall (fun _ _=>0) ⟨#[],#[.slice none 0 0,.agg #[.int .i64 0,.int .i64 0]],[]⟩).memory Tryz.f5.params.toList Rows.kindsFieldsSpec.vars false #[.slice none 0 0,.agg #[.int .i64 0,.int .i64 0]].toList 16=some ([.nil,.agg [.lit (.int .i64 0),.lit (.int .i64 0)]],[],places):=⟨[],by kernel_rfl⟩
 obtain⟨places,hx⟩:=hx
 refine returnsInHanded_of_row (C:=Tryz.checked) (s:=OpenSpec.ofChange Rows.kindsFieldsSpec) ownKnob' started (by kernel_rfl) Tryz.func5
  (witness_row_at (enc:=enc) (C:=Tryz.checked) false (laidWorld os) #[.slice none 0 0,.agg #[.int .i64 0,.int .i64 0]] rfl (by kernel_rfl) (by kernel_rfl) (by kernel_rfl)
   (OpenSpec.preRow_of_cond 16 hx (by kernel_rfl) (fun k hk=>by cases hk) (by kernel_rfl) (laidMet_of_run' 16 (by kernel_rfl) (by kernel_rfl)))) ?_
 intro W base args ds gs before hval hW _ _ _ hL _ _
 refine law_post (f:=5) (fn:=Tryz.f5) (s:=Rows.kindsFieldsSpec) rfl rfl (by kernel_rfl) (fun ds hds=>?_) hW fun ps hA=>?_
 ·match ds,hds with
  | [_,_],_=>rfl
 ·have hO:=obj_at hL
  have hA':DataW.TrodAll enc Tryz.prog W 0 (fun _=>true) true [22,28] args.toList _ ps:=hA
  obtain⟨v0,vs0,d0,ds0,p0,q0,hargs,rfl,rfl,h0,r0⟩:=trodAll_cons hA'
  obtain⟨v1,vs1,d1,ds1,p1,q1,rfl,rfl,rfl,h1,r1⟩:=trodAll_cons r0
  obtain⟨rfl,rfl,rfl⟩:=trodAll_nil r1
  obtain rfl:args = #[v0,v1]:=by cases args;simp_all
  obtain⟨a0,rfl,k0⟩:=arg_pks (hval 0 _ _ rfl rfl) h0
  obtain⟨a1,rfl,k1⟩:=arg_rf (hval 1 _ _ rfl rfl) h1
  exact kfields_law a0 a1 W (hid k0) k1 (hid hO)
theorem kindsFields_f1:(Rows.kindsFieldsRow.inPlace == Tryz.prog.inPlace 5)=true:=by kernel_rfl
theorem kindsFields_f2:(Rows.kindsFieldsRow.unfollowed == Tryz.prog.unfollowed 5)=true:=by kernel_rfl
theorem kindsFields_f3:(Rows.kindsFieldsRow.recurses == Tryz.prog.recurses 5)=true:=by kernel_rfl
theorem kindsFields_f4:(Rows.kindsFieldsRow.named == Tryz.prog.varsNamed 5)=true:=by kernel_rfl
theorem kindsFields_closed:joinedFacts Tryz.prog 5 Tryz.f5 (OpenSpec.ofChange Rows.kindsFieldsSpec).bare Rows.kindsFieldsRow=true:=by
 unfold joinedFacts
 exact and2 (and2 (and2 (and2 (and2 (and2 (and2 (and2 (and2 (and2 (and2 (and2 (and2 (and2 (and2 (and2 (and2 (and2 (and2 (and2 (and2 (and2 (and2 (and2 (and2 (and2 (and2 (and2 (and2 (and2 (and2 ((by kernel_rfl)) laidOut) wMaps) (by kernel_rfl)) (by kernel_rfl)) (by kernel_rfl)) wStops) (by kernel_rfl)) wKnobs) kindsFields_f1) kindsFields_f2) kindsFields_f3) kindsFields_f4) (by kernel_rfl)) (by kernel_rfl)) (by kernel_rfl)) (by kernel_rfl)) (by kernel_rfl)) (by kernel_rfl)) (by kernel_rfl)) (by kernel_rfl)) (by kernel_rfl)) wKeys) (by kernel_rfl)) wHeard) wEnter) wLifts) wMake) (by kernel_rfl)) (by kernel_rfl)) (by kernel_rfl)) (by kernel_rfl)
theorem kindsFields_said:Rows.KindsFieldsSaid :=
 OpenClaim.holds_of_cond 5 Tryz.f5 rfl rfl rfl rfl rfl rfl rfl ⟨rfl,rfl,rfl,rfl,rfl⟩ rfl rfl rfl rfl rfl (by kernel_rfl) Tryz.func5 kindsFields_closed
  (of_decide_eq_true (by kernel_rfl)) (by unfold Func.isWrapper;first|(rw[if_pos (by decide +kernel)];kernel_rfl)|(rw[if_neg (by decide +kernel)];exact⟨rfl,rfl⟩))
  (fun os started H enc _ F=>by rw[OpenClaim.pre_eq_preRow];exact kindsFields_lifted os started H enc F)
theorem kindsFields_plain (f:FuncId) (fn:Func) (hf:Tryz.pinned.checked.prog.funcNamed Rows.kindsFieldsRow.func=some f) (hfn:Tryz.pinned.checked.prog.funcs[f]? = some fn) :
  false=Tryz.pinned.checked.prog.looks []∧∀(j:Nat) t,fn.params[j]? = some t→Tryz.pinned.checked.prog.wantsStandIn t=false:=by
 obtain rfl:f=5:=Option.some.inj ((show Tryz.prog.funcNamed Rows.kindsFieldsRow.func=some 5 by kernel_rfl).symm.trans hf) |>.symm
 obtain rfl:fn=Tryz.f5:=(Option.some.inj (Tryz.func5.symm.trans hfn)).symm
 refine⟨by kernel_rfl,fun j t ht=>?_⟩
 have hall:(Tryz.f5.params.toList.all fun t=>!Tryz.pinned.checked.prog.wantsStandIn t)=true:=by kernel_rfl
 have hm:t∈Tryz.f5.params.toList:=by
  rw[Array.getElem?_eq_some_iff]at ht
  obtain⟨hl,he⟩:=ht
  rw[← he]
  simp
 simpa using List.all_eq_true.1 hall t hm
theorem kindsFields_holds:Rows.KindsFieldsCardSaid :=
 Claim7.holds_tied_plain_at .later [] _ _ _ _ kindsFields_said (fun _ h=>by cases h) (by kernel_rfl) (fun _ h=>by cases h) kindsFields_row_tie rfl ⟨rfl,rfl⟩ (by kernel_rfl) rfl kindsFields_plain (by kernel_rfl)
#print axioms kindsFields_holds
end Go.Proofs.YtiboldloondokaaGreatDoor
end
